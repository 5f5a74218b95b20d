/-
  For all inputs, EpochsHold returns true; its arguments read as before. No condition.
-/
import Derived.Test.YtmlfmmnnbdlabaaNErDef
set_option linter.unusedSimpArgs false
set_option linter.unusedVariables false
namespace Go.Proofs.Ytmlfmmnnbdlabaa
open Go.Ev Go.ChangeShapes Go.WideShapes Go.ChangeAt Go.RowKit
set_option maxRecDepth 100000
section
variable (e0 : Int) (m : Nat) (f : Nat → Nat → AV)
theorem er_1 : (callF Eer 5000 5 [AV.sym IntKind.u64 e0, AV.ss 1 1 0 m none] ⟨[(1, AO.arr 1 [CK.int IntKind.u8] true m f)], 2, gnm 0, [Hint.b true], [], [], false⟩).map (fun x => (x.1, x.2.ob, noneIn [(1, AO.arr 1 [CK.int IntKind.u8] true m f)] x.2.wr)) =
 some (AV.bool true, [decide (Int.ofNat m > 800) = true], true) := by kernel_rfl
theorem er_2 : (callF Eer 5000 5 [AV.sym IntKind.u64 e0, AV.ss 1 1 0 m none] ⟨[(1, AO.arr 1 [CK.int IntKind.u8] true m f)], 2, gnm 0, [Hint.b false, Hint.lp [1, 5, 6, 7, 8] (Ex.exit 0) (hdX m f (hdN f e0 m).S).tmps (hdX m f (hdN f e0 m).S).hp.heap 6 [4]], [], [], false⟩).map (fun x => (x.1, x.2.ob, noneIn [(1, AO.arr 1 [CK.int IntKind.u8] true m f)] x.2.wr)) =
 some (AV.bool true, [hdLP m f e0,
 (0 : Int) ≤ (5 : Int),
 (0 : Int) ≤ (1 : Int),
 decide (Int.ofNat m > 800) = false], true) := by kernel_rfl
theorem er_runs (h0 : 0 ≤ e0) (hr : ∀ i, i < m → 0 ≤ avInt (f i 0)) : Runs (erRun e0 m f) := by
  have hlp := fun h1 => hd_lp m f e0 h1 h0 hr
  cases h1 : (decide (Int.ofNat m > 800)) with
  | true =>
    have g1 := of_decide_eq_true h1
    try simp only [Int.ofNat_eq_natCast, ge_iff_le, gt_iff_lt, Int.not_lt, Int.not_le] at g1
    refine ⟨_, _, _, er_1 e0 m f, .inl rfl, (ob_cons h1 ob_nil)⟩
  | false =>
    have g1 := of_decide_eq_false h1
    try simp only [Int.ofNat_eq_natCast, ge_iff_le, gt_iff_lt, Int.not_lt, Int.not_le] at g1
    refine ⟨_, _, _, er_2 e0 m f, .inl rfl, (ob_cons ?_ (ob_cons (by decide) (ob_cons (by decide) (ob_cons h1 ob_nil))))⟩
    · exact hlp (by omega)
end
theorem hown : ownKnob Try.prog.godebug = none := by kernel_rfl
theorem hlaidOut : laidOutB Try.prog = true := by kernel_rfl
theorem k5 : flatK Try.prog 4 5 = some [.int .u8] := by kernel_rfl
set_option maxRecDepth 100000 in
theorem epochsHold_runs : LawRuns Try.prog 5 [32, 48] := by
  intro H enc W base args ds p hval hA
  obtain ⟨v0, v1, d0, d1, p0, p1, hargs, rfl, rfl, h0, h1⟩ := trodAll_two (args := args.toArray) hA
  obtain rfl : args = [v0, v1] := by simpa using congrArg Array.toList hargs
  obtain ⟨e0, rfl, re0⟩ := okWide_num Try.underlying32 (hval 0 32 v0 rfl rfl)
  obtain ⟨fuel1, h1⟩ := h1
  obtain ⟨c1, l1, q1, rfl⟩ := okWide_slice Try.underlying48 (hval 1 48 v1 rfl rfl)
  obtain ⟨L1, len1, num1, bit1, hw1, hs1, hl1, hm1, hn1, hob1, hwf1⟩ := open_rows Try.underlying48 k5 (by kernel_rfl) (by decide) (okWide_spot Try.underlying48 (hval 1 48 _ rfl rfl)) (by simpa [Value.cells] using h1)
  have hs1 : L1.slice 1 0 len1 none = some (.slice c1 l1 q1) := hs1
  obtain ⟨h, x, ob, hr, hx, hob⟩ := er_runs e0 len1 (rowAV [.int .u8] num1 bit1) (u64_range re0).1 (fun i hi => (u8_range (hwf1 i hi 0 .u8 rfl)).1)
  have e1 : inpT [(1, L1)] [] 1 = some L1 := inpT_of rfl
  exact run_lawG (W := W) (ρ := inpT [(1, L1)] []) Eer_ok hr hx hob (heapRepT (heap := [(1, .arr 1 [.int .u8] true len1 (rowAV [.int .u8] num1 bit1))]) (ls := [(1, L1)]) (tabs := []) (nxt := 2) rfl (by decide) rfl (fun g vs h => by cases h) (rep_cons rfl rfl hob1 rep_nil)) (xs := [.int .u64 e0, .slice c1 l1 q1])
    (by simp [denL, den, e1, hs1]) (inpT_fresh (nxt := 2) rfl (Nat.le_refl _)) (inpT_glob (nxt := 2) rfl (by decide))

set_option maxRecDepth 100000 in
theorem epochsHold_lifted (os : Os) (started : os.Started) (H : Type) (enc : TypeId × Value → H) :
    ReturnsInHanded {} Try.checked os 5 .any (Rows.epochsHoldSpec.pre6 enc Try.prog Try.f5 Rows.epochsHoldRow.domain false) (Rows.epochsHoldSpec.post enc Try.prog Try.f5 false true false false) := by
  refine returnsInHanded_of_change (C := Try.checked) hown started (by kernel_rfl) Try.func5
    (ChangeSpec.witness6 (enc := enc) (C := Try.checked) false ⟨#[], #[.int .u64 0, .slice none 0 0], []⟩ 8 (by kernel_rfl) (by kernel_rfl) (by kernel_rfl) (by kernel_rfl)) ?_
  intro W base args ds gs before hval0 hW hcnd _
  exact law_contract Try.params5 epochsHold_runs hlaidOut (of_decide_eq_true (by kernel_rfl)) (by kernel_rfl) Try.underlying4 rfl
    (fun ds hl => by match ds, hl with | [d0, d1], _ => exact ⟨rfl, rfl, rfl⟩) W base args ds gs before hval0 hW

theorem epochsHold_holds : Rows.EpochsHoldSaid :=
  OpenClaim.holds_of_wide 5 Try.f5 rfl rfl rfl rfl rfl rfl rfl ⟨rfl, rfl, rfl, rfl, rfl⟩ rfl rfl rfl rfl rfl (by kernel_rfl) Try.func5 (by kernel_rfl)
    (of_decide_eq_true (by kernel_rfl)) (by unfold Func.isWrapper; first | (rw [if_pos (by decide +kernel)]; kernel_rfl) | (rw [if_neg (by decide +kernel)]; exact ⟨rfl, rfl⟩))
    (fun os started H enc _ => epochsHold_lifted os started H enc)

#print axioms epochsHold_holds
end Go.Proofs.Ytmlfmmnnbdlabaa
