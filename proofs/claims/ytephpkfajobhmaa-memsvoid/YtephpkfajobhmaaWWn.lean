/-
  Words of a memory that is not there, or that no call made: contracts.
-/
import Derived.Test.YtephpkfajobhmaaWWv
import Derived.Test.YtephpkfajobhmaaEvSeq
import Derived.Test.YtephpkfajobhmaaEvAlt
import Derived.Test.YtephpkfajobhmaaEvUse
set_option linter.unusedSimpArgs false
set_option linter.unusedVariables false
namespace Go.Proofs.Ytephpkfajobhmaa
open Go Go.Proofs Go.Ev
theorem step_same {P : Program} {ρ : Ev.Ren} {lh : List (Nat × AO)} {k : Nat} {w w' : World} (hr : HeapRep P ρ lh w) (hB : Go.RowKit.Below w.heap.size w w') :
    Step P ρ ⟨lh, k + 1, gnm 0, [], [], [], false⟩ w ρ ⟨lh, k + 1, gnm 0, [], [], [], false⟩ w' := by
  refine ⟨Le.refl ρ, fun n l a b => (by rw [a] at b; cases b), ⟨fun n o e => ?_, hr.2⟩, ⟨hB.size, fun b hb _ => hB.block b hb, hB.tape, hB.os, hB.output⟩, fun n o l a b c _ => ⟨n, o, l, a, rfl, b, c, rfl, .inl rfl⟩⟩
  obtain ⟨l, hl, ho⟩ := hr.1 n o e
  exact ⟨l, hl, ho.keep (Le.refl ρ) (fun hc => hB.block _ (ho.lt hc))⟩
theorem wdn_loc : LocOk Try.prog 20 [.nilp] [] ⟨0, .nils, [], 0, [], []⟩ := by
  intro ρ w hob hr hf hg xs hx
  simp only [denL, den] at hx
  simp at hx
  subst hx
  refine (callsIn_wide.1 (Words_void 12 (Nat.le_refl _) none w (.inl rfl))).mono fun en w' ⟨hv, hB⟩ => ?_
  exact ⟨_, ρ, hv, .inr rfl, step_same hr hB⟩
section
variable (a0 a1 a2 a3 a4 a5 a6 a7 : AV)
def wdvR : LR := ⟨1, .nils, [(1, .cells 9 [.nilm, a0, a1, a2, a3, a4, a5, a6, a7])], 0, [], []⟩
theorem wdv_loc : LocOk Try.prog 20 [.ptr 1 0 0] [(1, .cells 9 [.nilm, a0, a1, a2, a3, a4, a5, a6, a7])] (wdvR a0 a1 a2 a3 a4 a5 a6 a7) := by
  intro ρ w hob hr hf hg xs hx
  obtain ⟨L1, hL1, ho1⟩ := hr.1 1 _ rfl
  obtain ⟨n1, c1, w1, cs, t, fr, hb1, hfr, hlen, hsz, hv⟩ := ho1
  simp only [denL, den, hL1, n1] at hx
  simp at hx
  subst hx
  obtain ⟨x0, hx0, hr0⟩ := hv 0 _ rfl
  have hx0' : x0 = .map none := by
    rcases hr0 with h | h
    · cases h
    · simp [den] at h; exact h.symm
  subst hx0'
  have hl1 : L1.blk < w.heap.size := (Array.getElem?_eq_some_iff.1 hb1).1
  have hcall := callsIn_wide.1 (Words_void 12 (Nat.le_refl _) (some ⟨L1.blk, L1.base + 0 * L1.wid + 0, none⟩) w (.inr ⟨_, _, rfl, hl1, by simp [World.cell?, hb1] at hx0 ⊢; exact hx0⟩))
  simp only [Nat.zero_mul, Nat.add_zero] at hcall
  refine hcall.mono fun en w' ⟨hv, hB⟩ => ?_
  exact ⟨_, ρ, hv, .inr rfl, step_same hr hB⟩
end
noncomputable def wdnSpec : LSpec := fun la lh => match la, lh with
  | [.nilp], [] => some (⟨0, .nils, [], 0, [], []⟩)
  | _, _ => none
theorem wdnSpec_ok (la : List AV) (lh : List (Nat × AO)) (R : LR) (h : wdnSpec la lh = some R) : LocOk Try.prog 20 la lh R := by
  unfold wdnSpec at h
  split at h
  · cases h
    exact wdn_loc
  · cases h
noncomputable def wdvSpec : LSpec := fun la lh => match la, lh with
  | [.ptr z1 z2 z3], [(z4, .cells z5 [.nilm, a0, a1, a2, a3, a4, a5, a6, a7])] =>
    match Nat.beq z1 1 && (Nat.beq z2 0 && (Nat.beq z3 0 && (Nat.beq z4 1 && (Nat.beq z5 9)))) with
    | true => some (wdvR a0 a1 a2 a3 a4 a5 a6 a7)
    | false => none
  | _, _ => none
theorem wdvSpec_ok (la : List AV) (lh : List (Nat × AO)) (R : LR) (h : wdvSpec la lh = some R) : LocOk Try.prog 20 la lh R := by
  unfold wdvSpec at h
  split at h
  · rename_i z1 z2 z3 z4 z5 a0 a1 a2 a3 a4 a5 a6 a7
    split at h
    · rename_i hb
      simp only [Bool.and_eq_true] at hb
      obtain ⟨e1, e2, e3, e4, e5⟩ := hb
      have e1 := Nat.eq_of_beq_eq_true e1; subst e1
      have e2 := Nat.eq_of_beq_eq_true e2; subst e2
      have e3 := Nat.eq_of_beq_eq_true e3; subst e3
      have e4 := Nat.eq_of_beq_eq_true e4; subst e4
      have e5 := Nat.eq_of_beq_eq_true e5; subst e5
      cases h
      exact wdv_loc a0 a1 a2 a3 a4 a5 a6 a7
    · cases h
  · cases h
noncomputable def wdvSP : SP := orSP (rawSP wdnSpec) (rawSP wdvSpec)
theorem wdvSP_ok : SPOk Try.prog 20 wdvSP := orSP_ok (rawSP_ok wdnSpec_ok) (rawSP_ok wdvSpec_ok)
end Go.Proofs.Ytephpkfajobhmaa
