/-
  For all inputs, ErasBump returns true; its arguments read as before. No condition.
-/
import Derived.Test.YtmlfmmnnbdlabaaNEcDef
set_option linter.unusedSimpArgs false
set_option linter.unusedVariables false
namespace Go.Proofs.Ytmlfmmnnbdlabaa
open Go.Ev Go.ChangeShapes Go.WideShapes Go.ChangeAt Go.RowKit
set_option maxRecDepth 100000
section
variable (era : Int) (n : Nat) (g : Nat → Nat → AV)
theorem ec_1 (x z : EX) (mv : Int) : (callF Eec 5000 10 [AV.sym IntKind.u64 era, AV.ss 1 1 0 n none] ⟨[(1, AO.arr 1 [CK.int IntKind.u8] true n g)], 2, gnm 0, [Hint.b true], [], [], false⟩).map (fun x => (x.1, x.2.ob, noneIn [(1, AO.arr 1 [CK.int IntKind.u8] true n g)] x.2.wr)) =
 some (AV.bool true, [decide (Int.ofNat n > 200) = true], true) := by kernel_rfl
theorem ec_2 (x z : EX) (mv : Int) : (callF Eec 5000 10 [AV.sym IntKind.u64 era, AV.ss 1 1 0 n none] ⟨[(1, AO.arr 1 [CK.int IntKind.u8] true n g)], 2, gnm 0, [Hint.b false, Hint.a AV.top, Hint.lp [0, 1, 5, 6, 7, 9] (Ex.exit 2) (eaX era n g x).tmps (eaX era n g x).hp.heap 23 [5, 8, 11, 14, 17, 20], Hint.lp [0, 5, 6, 7, 10, 11] (Ex.exit 4) (ebX era n g mv z).tmps (ebX era n g mv z).hp.heap 23 [], Hint.b false, Hint.b false, Hint.b true, Hint.b true, Hint.b true], [], [], false⟩).map (fun x => (x.1, x.2.ob, noneIn [(1, AO.arr 1 [CK.int IntKind.u8] true n g)] x.2.wr)) =
 some (AV.bool true, [(mget (bM 1 (bE 2 0 z.m.M) (bM 2 0 z.m.M)) (key 2 0 0) == IntKind.u64.wrap (IntKind.u64.wrap (era + mv) + 1)) = true,
 bV 1 (bE 2 0 z.m.M) (bV 2 0 false z.m.M) (bM 2 0 z.m.M) = true,
 ((0 : Int) == (0 : Int)) = true,
 (mget z.m.M (key 2 0 0) != IntKind.u64.wrap (era + mv)) = false,
 (mv == 0) = false,
 ebLP era n g x z mv,
 eaLP era n g x,
 (0 : Int) ≤ (2 : Int),
 decide (Int.ofNat n > 200) = false], true) := by kernel_rfl
theorem ec_runs (h0 : 0 ≤ era ∧ era < 18446744073709551616) (hr : ∀ i, i < n → 0 ≤ avInt (g i 0)) : Runs (ecRun era n g) := by
  have hI := ebN_inv (g := g) h0.1 h0.2 n
  have hlp := fun h1 => ea_lp era n g h1 hr
  have hlp2 := eb_lp era n g (ebN g era n) hI
  obtain ⟨k1, k2, k3⟩ := eb_end hI
  generalize hx : ebN g era n = x at *
  generalize hz : eb2 x 6 = z at *
  generalize hmv : mv2 x 6 = mv at *
  have hE : mget z.m.M (key 2 0 0) = IntKind.u64.wrap (era + mv) := k3
  have hm0 : (mv == 0) = false := by
    have : mv ≠ 0 := by omega
    simpa using this
  have hmE : (mget z.m.M (key 2 0 0) != IntKind.u64.wrap (era + mv)) = false := by rw [hE]; simp
  have hs2 : bV 1 (bE 2 0 z.m.M) (bV 2 0 false z.m.M) (bM 2 0 z.m.M) = true := by
    show casD z.m.M 2 0 0 (mget z.m.M (key 2 0 0)) = true
    rw [casD2]; exact decide_eq_true rfl
  have hs1 : (mget (bM 1 (bE 2 0 z.m.M) (bM 2 0 z.m.M)) (key 2 0 0) == IntKind.u64.wrap (IntKind.u64.wrap (era + mv) + 1)) = true := by
    show (mget (casM z.m.M 2 0 0 (mget z.m.M (key 2 0 0)) (IntKind.u64.wrap (mget z.m.M (key 2 0 0) + 1))) (key 2 0 0) == _) = true
    rw [casM2, if_pos rfl, hE]; simp
  have hs3 : ((0 : Int) == (0 : Int)) = true := rfl

  cases h1 : (decide (Int.ofNat n > 200)) with
  | true =>
    have g1 := of_decide_eq_true h1
    try simp only [Int.ofNat_eq_natCast, ge_iff_le, gt_iff_lt, Int.not_lt, Int.not_le] at g1
    refine ⟨_, _, _, ec_1 era n g x z mv, .inl rfl, (ob_cons h1 ob_nil)⟩
  | false =>
    have g1 := of_decide_eq_false h1
    try simp only [Int.ofNat_eq_natCast, ge_iff_le, gt_iff_lt, Int.not_lt, Int.not_le] at g1
    refine ⟨_, _, _, ec_2 era n g x z mv, .inl rfl, (ob_cons ?_ (ob_cons ?_ (ob_cons ?_ (ob_cons ?_ (ob_cons ?_ (ob_cons ?_ (ob_cons ?_ (ob_cons (by decide) (ob_cons h1 ob_nil)))))))))⟩
    · exact hs1
    · exact hs2
    · exact hs3
    · exact hmE
    · exact hm0
    · exact hlp2
    · exact hlp (by omega)
end
theorem hown : ownKnob Try.prog.godebug = none := by kernel_rfl
theorem hlaidOut : laidOutB Try.prog = true := by kernel_rfl
theorem k5 : flatK Try.prog 4 5 = some [.int .u8] := by kernel_rfl
set_option maxRecDepth 100000 in
theorem erasBump_runs : LawRuns Try.prog 10 [32, 48] := by
  intro H enc W base args ds p hval hA
  obtain ⟨v0, v1, d0, d1, p0, p1, hargs, rfl, rfl, h0, h1⟩ := trodAll_two (args := args.toArray) hA
  obtain rfl : args = [v0, v1] := by simpa using congrArg Array.toList hargs
  obtain ⟨era, rfl, rera⟩ := okWide_num Try.underlying32 (hval 0 32 v0 rfl rfl)
  obtain ⟨fuel1, h1⟩ := h1
  obtain ⟨c1, l1, q1, rfl⟩ := okWide_slice Try.underlying48 (hval 1 48 v1 rfl rfl)
  obtain ⟨L1, len1, num1, bit1, hw1, hs1, hl1, hm1, hn1, hob1, hwf1⟩ := open_rows Try.underlying48 k5 (by kernel_rfl) (by decide) (okWide_spot Try.underlying48 (hval 1 48 _ rfl rfl)) (by simpa [Value.cells] using h1)
  have hs1 : L1.slice 1 0 len1 none = some (.slice c1 l1 q1) := hs1
  obtain ⟨h, x, ob, hr, hx, hob⟩ := ec_runs era len1 (rowAV [.int .u8] num1 bit1) (u64_range rera) (fun i hi => (u8_range (hwf1 i hi 0 .u8 rfl)).1)
  have e1 : inpT [(1, L1)] [] 1 = some L1 := inpT_of rfl
  exact run_lawG (W := W) (ρ := inpT [(1, L1)] []) Eec_ok hr hx hob (heapRepT (heap := [(1, .arr 1 [.int .u8] true len1 (rowAV [.int .u8] num1 bit1))]) (ls := [(1, L1)]) (tabs := []) (nxt := 2) rfl (by decide) rfl (fun g vs h => by cases h) (rep_cons rfl rfl hob1 rep_nil)) (xs := [.int .u64 era, .slice c1 l1 q1])
    (by simp [denL, den, e1, hs1]) (inpT_fresh (nxt := 2) rfl (Nat.le_refl _)) (inpT_glob (nxt := 2) rfl (by decide))

set_option maxRecDepth 100000 in
theorem erasBump_lifted (os : Os) (started : os.Started) (H : Type) (enc : TypeId × Value → H) :
    ReturnsInHanded {} Try.checked os 10 .any (Rows.erasBumpSpec.pre6 enc Try.prog Try.f10 Rows.erasBumpRow.domain false) (Rows.erasBumpSpec.post enc Try.prog Try.f10 false true false false) := by
  refine returnsInHanded_of_change (C := Try.checked) hown started (by kernel_rfl) Try.func10
    (ChangeSpec.witness6 (enc := enc) (C := Try.checked) false ⟨#[], #[.int .u64 0, .slice none 0 0], []⟩ 8 (by kernel_rfl) (by kernel_rfl) (by kernel_rfl) (by kernel_rfl)) ?_
  intro W base args ds gs before hval0 hW hcnd _
  exact law_contract Try.params10 erasBump_runs hlaidOut (of_decide_eq_true (by kernel_rfl)) (by kernel_rfl) Try.underlying4 rfl
    (fun ds hl => by match ds, hl with | [d0, d1], _ => exact ⟨rfl, rfl, rfl⟩) W base args ds gs before hval0 hW

theorem erasBump_holds : Rows.ErasBumpSaid :=
  OpenClaim.holds_of_wide 10 Try.f10 rfl rfl rfl rfl rfl rfl rfl ⟨rfl, rfl, rfl, rfl, rfl⟩ rfl rfl rfl rfl rfl (by kernel_rfl) Try.func10 (by kernel_rfl)
    (of_decide_eq_true (by kernel_rfl)) (by unfold Func.isWrapper; first | (rw [if_pos (by decide +kernel)]; kernel_rfl) | (rw [if_neg (by decide +kernel)]; exact ⟨rfl, rfl⟩))
    (fun os started H enc _ => erasBump_lifted os started H enc)

#print axioms erasBump_holds
end Go.Proofs.Ytmlfmmnnbdlabaa
