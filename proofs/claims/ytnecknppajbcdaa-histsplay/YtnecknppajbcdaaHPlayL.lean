/-
  For every list of acts, HistsPlay returns true; its argument reads as before. No condition.
-/
import Derived.Test.YtnecknppajbcdaaHPlay
import Derived.Test.YtnecknppajbcdaaEvJoin
set_option linter.unusedSimpArgs false
set_option linter.unusedVariables false
namespace Go.Proofs.Ytnecknppajbcdaa
open Go.Ev Go.ChangeShapes Go.WideShapes Go.ChangeAt Go.RowKit
noncomputable def hpLA (m : Nat) (A : Nat → Ac) (f : Nat → Nat → AV) : Prop := LoopHolds Try.prog lcH1 (hpU m f) (.exit 0) (hpXA m A)
noncomputable def hpLB (m : Nat) (A : Nat → Ac) (f : Nat → Nat → AV) (S : HS) : Prop := LoopHolds Try.prog lcH1 (hpU m f) (.exit 0) (hpXB m A S)
theorem hpi_1 (m : Nat) (A : Nat → Ac) (f : Nat → Nat → AV) : castSt ((hpU m f).hp) [(6, Src.nil 9)] (hpU m f) (hpA m A 0) =
 some ([(0 : Nat) = 0,
 m = m,
 (none : Option Nat) = none,
 (0 : Nat) = 0,
 (0 : Nat) = 0,
 (0 : Nat) = 0,
 (0 : Nat) = 0,
 (0 : Int) = 0,
 (0 : Nat) = 0,
 (0 : Nat) = 0,
 (none : Option Nat) = none,
 (0 : Nat) = 0,
 true = true,
 m ≤ m,
 acF A = f ∧ plainSh aSh = true ∨ ∀ (i : Nat), i < m → rowOb aSh 0 (f i) (acF A i)]) := by kernel_rfl
theorem hp_lp (m : Nat) (A : Nat → Ac) (f : Nat → Nat → AV) (s1 : St) (hm : m ≤ 200) (hA : ∀ i, i < m → acOf (f i) = A i) (hAO : ∀ i, AOk (A i)) (h0 : (hN A m).n = 0 → s1 = hpXA m A) (h1 : 0 < (hN A m).n → s1 = hpXB m A (hN A m)) : LoopHolds Try.prog lcH1 (hpU m f) (.exit 0) s1 := by
  refine loop_rule EH3_ok (I := HI) (hpF m A) (hpMu m) (hpOk m A) ?_ (fun x hx => ?_)
  ·
    refine ⟨.a 0, [(6, Src.nil 9)], _, ⟨Nat.zero_le _, rfl⟩, hpi_1 m A f, (ob_cons rfl (ob_cons rfl (ob_cons rfl (ob_cons rfl (ob_cons rfl (ob_cons rfl (ob_cons rfl (ob_cons rfl (ob_cons rfl (ob_cons rfl (ob_cons rfl (ob_cons rfl (ob_cons rfl (ob_cons (Nat.le_refl _) (ob_cons ?_ ob_nil)))))))))))))))⟩
    · -- acF A = f ∧ plainSh aSh = true ∨ ∀ (i : Nat), i < m → rowOb aSh 0 (f i) (acF A i)
      first | exact .inl ⟨rfl, rfl⟩ | exact .inr (fun i hi => row_ac (hA i hi)) | exact .inl ⟨rfl, rfl⟩ | (refine .inr (fun i hi => ?_); omega)
  · cases x with
    | a ii => exact ha_round m ii A f s1 hm hAO hx.1 hx.2 h0
    | b ii S =>
      obtain ⟨x1, x2, x3, x4, x5⟩ := hx
      exact hb_round m ii A f S s1 hm hAO x1 x2 x3 x4 x5 (fun e => by
        have : 0 < (hN A m).n := by rw [← e]; exact x3
        rw [h1 this, e])
noncomputable def hpRun (m : Nat) (f : Nat → Nat → AV) (h : List Hint) : Option (AV × List Prop × Bool) := (callF EH3 2000 7 [.ss 8 1 0 m none] ⟨[(1, .arr 8 aSh true m f)], 2, gnm 0, h, [], [], false⟩).map (fun x => (x.1, x.2.ob, noneIn [(1, .arr 8 aSh true m f)] x.2.wr))
theorem lawC_1 (m : Nat) (f : Nat → Nat → AV) : (callF EH3 2000 7 [AV.ss 8 1 0 m none] ⟨[(1, AO.arr 8 aSh true m f)], 2, gnm 0, [Hint.b true], [], [], false⟩).map (fun x => (x.1, x.2.ob, noneIn [(1, AO.arr 8 aSh true m f)] x.2.wr)) =
 some (AV.bool true, [decide (Int.ofNat m > 200) = true], true) := by kernel_rfl
theorem lawA_1 (m : Nat) (A : Nat → Ac) (f : Nat → Nat → AV) : (callF EH3 2000 7 [AV.ss 8 1 0 m none] ⟨[(1, AO.arr 8 aSh true m f)], 2, gnm 0, [Hint.b false, Hint.lp [0, 2, 3, 4, 5] (Ex.exit 0) (hpXA m A).tmps (hpHA m A) 7 [2, 3], Hint.node [(4, [Hint.b false])]], [], [], false⟩).map (fun x => (x.1, x.2.ob, noneIn [(1, AO.arr 8 aSh true m f)] x.2.wr)) =
 some (AV.bool true, [(0 != 0) = false,
 hpLA m A f,
 decide (Int.ofNat m > 200) = false], true) := by kernel_rfl
theorem lawB_1 (m : Nat) (A : Nat → Ac) (f : Nat → Nat → AV) (S : HS) : (callF EH3 2000 7 [AV.ss 8 1 0 m none] ⟨[(1, AO.arr 8 aSh true m f)], 2, gnm 0, [Hint.b false, Hint.lp [0, 2, 3, 4, 5] (Ex.exit 0) (hpXB m A S).tmps (hpHB m A S) 7 [2, 3]], [], [], false⟩).map (fun x => (x.1, x.2.ob, noneIn [(1, AO.arr 8 aSh true m f)] x.2.wr)) =
 some (AV.bool true, [S.n ≤ S.n,
 S.n ≤ S.n,
 S.n = S.n,
 S.n ≤ 1000000,
 ∀ (i : Nat), i < S.n → samP S.n S.n S.n S.n (some S.n) none false false (cF (fCl (cF S.C))) (dF S.C) i = false,
 S.n ≤ S.n,
 S.n ≤ 100000,
 0 < S.n,
 hpLB m A f S,
 decide (Int.ofNat m > 200) = false], true) := by kernel_rfl
theorem lawC_runs (m : Nat) (f : Nat → Nat → AV) (hm : m > 200) : Runs (hpRun m f) := by
  refine ⟨_, _, _, lawC_1 m f, .inl rfl, (ob_cons ?_ ob_nil)⟩
  · -- decide (Int.ofNat m > 200) = true
    first | (apply Nat.ble_eq_true_of_le; omega) | (simp [Nat.blt_eq]; omega) | (simp; omega)
theorem lawA_runs (m : Nat) (A : Nat → Ac) (f : Nat → Nat → AV) (hm : ¬ m > 200) (hl : hpLA m A f) : Runs (hpRun m f) := by
  refine ⟨_, _, _, lawA_1 m A f, .inl rfl, (ob_cons ?_ (ob_cons ?_ (ob_cons ?_ ob_nil)))⟩
  · -- (0 != 0) = false
    first | (apply Nat.ble_eq_true_of_le; omega) | (simp [Nat.blt_eq]; omega) | exact hl | (simp; omega) | (simp; done)
  · -- hpLA m A f
    first | trivial | exact hl | (simp; omega) | (simp; done)
  · -- decide (Int.ofNat m > 200) = false
    first | (apply Nat.ble_eq_true_of_le; omega) | (simp [Nat.blt_eq]; omega) | exact hl | (simp; omega) | (simp; done)
theorem lawB_runs (m : Nat) (A : Nat → Ac) (f : Nat → Nat → AV) (S : HS) (hm : ¬ m > 200) (hn : 0 < S.n) (hn2 : S.n ≤ m) (h : HInv S) (hl : hpLB m A f S) : Runs (hpRun m f) := by
  refine ⟨_, _, _, lawB_1 m A f S, .inl rfl, (ob_cons (Nat.le_refl _) (ob_cons (Nat.le_refl _) (ob_cons rfl (ob_cons ?_ (ob_cons ?_ (ob_cons (Nat.le_refl _) (ob_cons ?_ (ob_cons ?_ (ob_cons ?_ (ob_cons ?_ ob_nil))))))))))⟩
  · -- S.n ≤ 1000000
    first | exact Nat.le_refl _ | omega | exact hl | omega | exact sam_ok h _ rfl | (simp; omega)
  · -- ∀ (i : Nat), i < S.n → samP S.n S.n S.n S.n (some S.n) none false false (cF (fCl (cF S.C))) (dF S.C) i = false
    first | exact fun _ => rfl | exact hl | omega | exact sam_ok h _ rfl | (simp; omega)
  · -- S.n ≤ 100000
    first | exact Nat.le_refl _ | omega | exact hl | omega | exact sam_ok h _ rfl | (simp; omega)
  · -- 0 < S.n
    first | omega | exact hl | omega | exact sam_ok h _ rfl | (simp; omega)
  · -- hpLB m A f S
    first | trivial | exact hl | omega | exact sam_ok h _ rfl | (simp; omega)
  · -- decide (Int.ofNat m > 200) = false
    first | (apply Nat.ble_eq_true_of_le; omega) | (simp [Nat.blt_eq]; omega) | exact hl | omega | exact sam_ok h _ rfl | (simp; omega)
theorem hp_runs (m : Nat) (f : Nat → Nat → AV) (hr : ∀ i, i < m → AOk (acOf (f i))) : Runs (hpRun m f) := by
  by_cases hm : m > 200
  · exact lawC_runs m f hm
  let A : Nat → Ac := fun i => if i < m then acOf (f i) else ⟨0, 0, 0, 0, 0, 0, 0, 0⟩
  have hA : ∀ i, i < m → acOf (f i) = A i := fun i hi => by simp [A, hi]
  have hAO : ∀ i, AOk (A i) := fun i => by
    by_cases e : i < m
    · rw [← hA i e]; exact hr i e
    · simp only [A, e, if_false]; exact ⟨by decide, by decide⟩
  obtain ⟨i1, i2⟩ := hN_inv hAO m
  by_cases hn : (hN A m).n = 0
  · exact lawA_runs m A f hm (hp_lp m A f _ (by omega) hA hAO (fun _ => rfl) (fun h => by omega))
  · exact lawB_runs m A f _ hm (by omega) i2 i1 (hp_lp m A f _ (by omega) hA hAO (fun h => (hn h).elim) (fun _ => rfl))
theorem hown : ownKnob Try.prog.godebug = none := by kernel_rfl
theorem hlaidOut : laidOutB Try.prog = true := by kernel_rfl
theorem k60 : flatK Try.prog 4 60 = some aSh := by kernel_rfl
set_option maxRecDepth 100000 in
theorem histsPlay_runs : LawRuns Try.prog 7 [53] := by
  intro H enc W base args ds p hval hA
  obtain ⟨v0, d0, hargs, rfl, h0⟩ := trodAll_one (args := args.toArray) hA
  obtain rfl : args = [v0] := by simpa using congrArg Array.toList hargs
  obtain ⟨fuel0, h0⟩ := h0
  obtain ⟨c0, l0, q0, rfl⟩ := okWide_slice Try.underlying53 (hval 0 53 v0 rfl rfl)
  obtain ⟨L0, len0, num0, bit0, hw0, hs0, hl0, hm0, hn0, hob0, hwf0⟩ := open_rows Try.underlying53 k60 (by kernel_rfl) (by decide) (okWide_spot Try.underlying53 (hval 0 53 _ rfl rfl)) (by simpa [Value.cells] using h0)
  obtain ⟨h, x, ob, hr, hx, hob⟩ := hp_runs len0 (rowAV aSh num0 bit0) (fun i hi => ⟨u8_range (hwf0 i hi 3 .u8 rfl), u8_range (hwf0 i hi 4 .u8 rfl)⟩)
  exact run_law' (W := W) (ls := [(1, L0)]) EH3_ok hr hx hob (heapRep_one hob0) (xs := [.slice c0 l0 q0])
    (by
      show denL (inp [(1, L0)]) [.ss 8 1 0 len0 none] = _
      simp only [denL, den, inp_one]
      have hs : L0.slice 8 0 len0 none = some (.slice c0 l0 q0) := hs0
      simp [hs]) rfl (by decide) (Nat.le_refl _)

set_option maxRecDepth 100000 in
theorem histsPlay_lifted (os : Os) (started : os.Started) (H : Type) (enc : TypeId × Value → H) :
    ReturnsInHanded {} Try.checked os 7 .any (Rows.histsPlaySpec.pre6 enc Try.prog Try.f7 Rows.histsPlayRow.domain false) (Rows.histsPlaySpec.post enc Try.prog Try.f7 false true false false) := by
  refine returnsInHanded_of_change (C := Try.checked) hown started (by kernel_rfl) Try.func7
    (ChangeSpec.witness6 (enc := enc) (C := Try.checked) false ⟨#[], #[.slice none 0 0], []⟩ 8 (by kernel_rfl) (by kernel_rfl) (by kernel_rfl) (by kernel_rfl)) ?_
  intro W base args ds gs before hval0 hW hcnd _
  exact law_contract Try.params7 histsPlay_runs hlaidOut (of_decide_eq_true (by kernel_rfl)) (by kernel_rfl) Try.underlying4 rfl
    (fun ds hl => by match ds, hl with | [d0], _ => exact ⟨rfl, rfl, rfl⟩) W base args ds gs before hval0 hW

theorem histsPlay_holds : Rows.HistsPlaySaid :=
  OpenClaim.holds_of_wide 7 Try.f7 rfl rfl rfl rfl rfl rfl rfl ⟨rfl, rfl, rfl, rfl, rfl⟩ rfl rfl rfl rfl rfl (by kernel_rfl) Try.func7 (by kernel_rfl)
    (of_decide_eq_true (by kernel_rfl)) (by unfold Func.isWrapper; first | (rw [if_pos (by decide +kernel)]; kernel_rfl) | (rw [if_neg (by decide +kernel)]; exact ⟨rfl, rfl⟩))
    (fun os started H enc _ => histsPlay_lifted os started H enc)

#print axioms histsPlay_holds

end Go.Proofs.Ytnecknppajbcdaa
