/-
  For every list of acts, HistsOrder returns true; its argument reads as before. No condition.
-/
import Derived.Test.YtnecknppajbcdaaHOrdL
import Derived.Test.YtnecknppajbcdaaEvJoin
set_option linter.unusedSimpArgs false
set_option linter.unusedVariables false
namespace Go.Proofs.Ytnecknppajbcdaa
open Go.Ev Go.ChangeShapes Go.WideShapes Go.ChangeAt Go.RowKit
noncomputable def orLA (m : Nat) (A : Nat → Ac) (f : Nat → Nat → AV) : Prop := LoopHolds Try.prog lcR0 (orU m f) (.exit 0) (orXA m A)
noncomputable def orLB (m : Nat) (A : Nat → Ac) (f : Nat → Nat → AV) (S : HS) : Prop := LoopHolds Try.prog lcR0 (orU m f) (.exit 0) (orXB m A S)
noncomputable def jLp (S : HS) : Prop := LoopHolds Try.prog lcR1 (jU S) (.exit 3) jS
noncomputable def orRun (m : Nat) (f : Nat → Nat → AV) (h : List Hint) : Option (AV × List Prop × Bool) := (callF EH3 2000 9 [.ss 8 1 0 m none] ⟨[(1, .arr 8 aSh true m f)], 2, gnm 0, h, [], [], false⟩).map (fun x => (x.1, x.2.ob, noneIn [(1, .arr 8 aSh true m f)] x.2.wr))
theorem oawC_1 (m : Nat) (f : Nat → Nat → AV) : (callF EH3 2000 9 [AV.ss 8 1 0 m none] ⟨[(1, AO.arr 8 aSh true m f)], 2, gnm 0, [Hint.b true], [], [], false⟩).map (fun x => (x.1, x.2.ob, noneIn [(1, AO.arr 8 aSh true m f)] x.2.wr)) =
 some (AV.bool true, [decide (Int.ofNat m > 200) = true], true) := by kernel_rfl
theorem oawA_1 (m : Nat) (A : Nat → Ac) (f : Nat → Nat → AV) : (callF EH3 2000 9 [AV.ss 8 1 0 m none] ⟨[(1, AO.arr 8 aSh true m f)], 2, gnm 0, [Hint.b false, Hint.lp [0, 2, 3, 4] (Ex.exit 0) (orXA m A).tmps (orHA m A) 5 [2]], [], [], false⟩).map (fun x => (x.1, x.2.ob, noneIn [(1, AO.arr 8 aSh true m f)] x.2.wr)) =
 some (AV.bool true, [orLA m A f,
 decide (Int.ofNat m > 200) = false], true) := by kernel_rfl
theorem oawB_1 (m : Nat) (A : Nat → Ac) (f : Nat → Nat → AV) (S : HS) : (callF EH3 2000 9 [AV.ss 8 1 0 m none] ⟨[(1, AO.arr 8 aSh true m f)], 2, gnm 0, [Hint.b false, Hint.lp [0, 2, 3, 4] (Ex.exit 0) (orXB m A S).tmps (orHB m A S) 5 [2], Hint.lpl [2, 3, 8, 9] [gnm 3, 3, 4, gnm 8] 4 (Ex.exit 3) jX [] 0 []], [], [], false⟩).map (fun x => (x.1, x.2.ob, noneIn [(1, AO.arr 8 aSh true m f)] x.2.wr)) =
 some (AV.bool true, [jLp S,
 S.n ≤ S.n,
 S.n ≤ 100000,
 0 < S.n,
 orLB m A f S,
 decide (Int.ofNat m > 200) = false], true) := by kernel_rfl
theorem oawC_runs (m : Nat) (f : Nat → Nat → AV) (hm : m > 200) : Runs (orRun m f) := by
  refine ⟨_, _, _, oawC_1 m f, .inl rfl, (ob_cons ?_ ob_nil)⟩
  ·
    first | (apply Nat.ble_eq_true_of_le; omega) | (simp [Nat.blt_eq]; omega) | (simp; omega)
theorem oawA_runs (m : Nat) (A : Nat → Ac) (f : Nat → Nat → AV) (hm : ¬ m > 200) (hl : orLA m A f) : Runs (orRun m f) := by
  refine ⟨_, _, _, oawA_1 m A f, .inl rfl, (ob_cons ?_ (ob_cons ?_ ob_nil))⟩
  ·
    first | trivial | exact hl | (simp; omega) | (simp; done)
  ·
    first | (apply Nat.ble_eq_true_of_le; omega) | (simp [Nat.blt_eq]; omega) | exact hl | (simp; omega) | (simp; done)
theorem oawB_runs (m : Nat) (A : Nat → Ac) (f : Nat → Nat → AV) (S : HS) (hm : ¬ m > 200) (hn : 0 < S.n) (hn2 : S.n ≤ m) (hl : orLB m A f S) (hj : jLp S) : Runs (orRun m f) := by
  refine ⟨_, _, _, oawB_1 m A f S, .inl rfl, (ob_cons ?_ (ob_cons (Nat.le_refl _) (ob_cons ?_ (ob_cons ?_ (ob_cons ?_ (ob_cons ?_ ob_nil))))))⟩
  ·
    first | trivial | exact hl | exact hj | omega | (simp; omega)
  ·
    first | exact Nat.le_refl _ | omega | exact hl | exact hj | omega | (simp; omega)
  ·
    first | omega | exact hl | exact hj | omega | (simp; omega)
  ·
    first | trivial | exact hl | exact hj | omega | (simp; omega)
  ·
    first | (apply Nat.ble_eq_true_of_le; omega) | (simp [Nat.blt_eq]; omega) | exact hl | exact hj | omega | (simp; omega)
theorem or_runs (m : Nat) (f : Nat → Nat → AV) (hr : ∀ i, i < m → AOk (acOf (f i))) : Runs (orRun m f) := by
  by_cases hm : m > 200
  · exact oawC_runs m f hm
  let A : Nat → Ac := fun i => if i < m then acOf (f i) else ⟨0, 0, 0, 0, 0, 0, 0, 0⟩
  have hA : ∀ i, i < m → acOf (f i) = A i := fun i hi => by simp [A, hi]
  have hAO : ∀ i, AOk (A i) := fun i => by
    by_cases e : i < m
    · rw [← hA i e]; exact hr i e
    · simp only [A, e, if_false]; exact ⟨by decide, by decide⟩
  obtain ⟨i1, i2⟩ := hN_inv hAO m
  have i3 := hN_in2 hAO m
  by_cases hn : (hN A m).n = 0
  · exact oawA_runs m A f hm (or_lp m A f _ (by omega) hA (fun _ => rfl) (fun h => by omega))
  · exact oawB_runs m A f _ hm (by omega) i2 (or_lp m A f _ (by omega) hA (fun h => (hn h).elim) (fun _ => rfl)) (jj_lp _ i3 (by omega))
theorem hown : ownKnob Try.prog.godebug = none := by kernel_rfl
theorem hlaidOut : laidOutB Try.prog = true := by kernel_rfl
theorem k60 : flatK Try.prog 4 60 = some aSh := by kernel_rfl
set_option maxRecDepth 100000 in
theorem histsOrder_runs : LawRuns Try.prog 9 [53] := by
  intro H enc W base args ds p hval hA
  obtain ⟨v0, d0, hargs, rfl, h0⟩ := trodAll_one (args := args.toArray) hA
  obtain rfl : args = [v0] := by simpa using congrArg Array.toList hargs
  obtain ⟨fuel0, h0⟩ := h0
  obtain ⟨c0, l0, q0, rfl⟩ := okWide_slice Try.underlying53 (hval 0 53 v0 rfl rfl)
  obtain ⟨L0, len0, num0, bit0, hw0, hs0, hl0, hm0, hn0, hob0, hwf0⟩ := open_rows Try.underlying53 k60 (by kernel_rfl) (by decide) (okWide_spot Try.underlying53 (hval 0 53 _ rfl rfl)) (by simpa [Value.cells] using h0)
  obtain ⟨h, x, ob, hr, hx, hob⟩ := or_runs len0 (rowAV aSh num0 bit0) (fun i hi => ⟨u8_range (hwf0 i hi 3 .u8 rfl), u8_range (hwf0 i hi 4 .u8 rfl)⟩)
  exact run_law' (W := W) (ls := [(1, L0)]) EH3_ok hr hx hob (heapRep_one hob0) (xs := [.slice c0 l0 q0])
    (by
      show denL (inp [(1, L0)]) [.ss 8 1 0 len0 none] = _
      simp only [denL, den, inp_one]
      have hs : L0.slice 8 0 len0 none = some (.slice c0 l0 q0) := hs0
      simp [hs]) rfl (by decide) (Nat.le_refl _)

set_option maxRecDepth 100000 in
theorem histsOrder_lifted (os : Os) (started : os.Started) (H : Type) (enc : TypeId × Value → H) :
    ReturnsInHanded {} Try.checked os 9 .any (Rows.histsOrderSpec.pre6 enc Try.prog Try.f9 Rows.histsOrderRow.domain false) (Rows.histsOrderSpec.post enc Try.prog Try.f9 false true false false) := by
  refine returnsInHanded_of_change (C := Try.checked) hown started (by kernel_rfl) Try.func9
    (ChangeSpec.witness6 (enc := enc) (C := Try.checked) false ⟨#[], #[.slice none 0 0], []⟩ 8 (by kernel_rfl) (by kernel_rfl) (by kernel_rfl) (by kernel_rfl)) ?_
  intro W base args ds gs before hval0 hW hcnd _
  exact law_contract Try.params9 histsOrder_runs hlaidOut (of_decide_eq_true (by kernel_rfl)) (by kernel_rfl) Try.underlying4 rfl
    (fun ds hl => by match ds, hl with | [d0], _ => exact ⟨rfl, rfl, rfl⟩) W base args ds gs before hval0 hW

theorem histsOrder_holds : Rows.HistsOrderSaid :=
  OpenClaim.holds_of_wide 9 Try.f9 rfl rfl rfl rfl rfl rfl rfl ⟨rfl, rfl, rfl, rfl, rfl⟩ rfl rfl rfl rfl rfl (by kernel_rfl) Try.func9 (by kernel_rfl)
    (of_decide_eq_true (by kernel_rfl)) (by unfold Func.isWrapper; first | (rw [if_pos (by decide +kernel)]; kernel_rfl) | (rw [if_neg (by decide +kernel)]; exact ⟨rfl, rfl⟩))
    (fun os started H enc _ => histsOrder_lifted os started H enc)

#print axioms histsOrder_holds

end Go.Proofs.Ytnecknppajbcdaa
