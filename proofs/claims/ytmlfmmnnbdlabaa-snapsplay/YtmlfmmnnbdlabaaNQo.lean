/-
  For all inputs, SnapsPlay returns true; its arguments read as before. No condition.
-/
import Derived.Test.YtmlfmmnnbdlabaaNQoDef
import Derived.Test.YtmlfmmnnbdlabaaEvUse
set_option linter.unusedSimpArgs false
set_option linter.unusedVariables false
namespace Go.Proofs.Ytmlfmmnnbdlabaa
open Go.Ev Go.ChangeShapes Go.WideShapes Go.ChangeAt Go.RowKit
set_option maxRecDepth 100000
section
variable (n : Nat) (g : Nat → Nat → AV) (m : Nat) (f : Nat → Nat → AV)
theorem pya_1 : (callF Esy 6000 7 [AV.ss 4 1 0 n none, AV.ss 4 2 0 m none] ⟨[(1, AO.arr 4 wSh true n g), (2, AO.arr 4 wSh true m f)], 3, gnm 0, [Hint.b true], [], [], false⟩).map (fun x => (x.1, x.2.ob, noneIn [(1, AO.arr 4 wSh true n g), (2, AO.arr 4 wSh true m f)] x.2.wr)) =
 some (AV.bool true, [decide (Int.ofNat n > 300) = true], true) := by kernel_rfl
theorem pya_2 : (callF Esy 6000 7 [AV.ss 4 1 0 n none, AV.ss 4 2 0 m none] ⟨[(1, AO.arr 4 wSh true n g), (2, AO.arr 4 wSh true m f)], 3, gnm 0, [Hint.b false, Hint.b true], [], [], false⟩).map (fun x => (x.1, x.2.ob, noneIn [(1, AO.arr 4 wSh true n g), (2, AO.arr 4 wSh true m f)] x.2.wr)) =
 some (AV.bool true, [decide (Int.ofNat m > 400) = true,
 decide (Int.ofNat n > 300) = false], true) := by kernel_rfl
theorem pyz_1 (al : Nat) (b : Int) (y : PS) : (callF Esy 6000 7 [AV.ss 4 1 0 n none, AV.ss 4 2 0 m none] ⟨[(1, AO.arr 4 wSh true n g), (2, AO.arr 4 wSh true m f)], 3, gnm 0, [Hint.b false, Hint.b false, Hint.lp [1, 5, 6, 7, 8, 9] (Ex.exit 0) (ppY n g m f al b y).tmps (ppY n g m f al b y).hp.heap 13 [6, 5, 4, 3, 9, 10, 11], Hint.node [(11, [Hint.b false]), (29, [Hint.b false])], Hint.node [(6, [Hint.b false])], Hint.b true], [], [], false⟩).map (fun x => (x.1, x.2.ob, noneIn [(1, AO.arr 4 wSh true n g), (2, AO.arr 4 wSh true m f)] x.2.wr)) =
 some (AV.bool true, [((0 : Int) != (0 : Int)) = false,
 Both y.S y.R,
 ((1 : Int) != (1 : Int)) = false,
 (0 : Nat) ≤ (0 : Nat),
 (0 : Nat) ≤ (100000 : Nat),
 ((0 : Int) != (0 : Int)) = false,
 ppLZ n g m f al b (msN (bgW g) n) (rsN (bgW g) n) y,
 n ≤ n,
 n ≤ 300,
 ∀ (i : Nat), i < n → 0 ≤ avInt (g i 0),
 decide (Int.ofNat m > 400) = false,
 decide (Int.ofNat n > 300) = false], true) := by kernel_rfl
theorem pyp_1 (al : Nat) (b : Int) (K : Nat) (y : PS) : (callF Esy 6000 7 [AV.ss 4 1 0 n none, AV.ss 4 2 0 m none] ⟨[(1, AO.arr 4 wSh true n g), (2, AO.arr 4 wSh true m f)], 3, gnm 0, [Hint.b false, Hint.b false, Hint.lp [1, 5, 6, 7, 8, 9] (Ex.exit 0) (ppX n g m f al b K y).tmps (ppX n g m f al b K y).hp.heap 13 [6, 5, 4, 3, 9, 10, 11], Hint.b false, Hint.node [(23, [Hint.b false]), (29, [Hint.b false])], Hint.lp [5, 6, 7, 8, 10, 11] (Ex.exit 2) (spX n g m f al b K y).tmps (spX n g m f al b K y).hp.heap 8388063432733863541908798598120722827555145242985353523050934130746342853286978546888379611585129402699147128076872681961119219898831319699154351947753 [16], Hint.node [(1, [Hint.b false])], Hint.b true], [], [], false⟩).map (fun x => (x.1, x.2.ob, noneIn [(1, AO.arr 4 wSh true n g), (2, AO.arr 4 wSh true m f)] x.2.wr)) =
 some (AV.bool true, [al - 0 = rdN y.fl y.ta,
 (0 : Int) = 0,
 al - 0 ≤ al,
 al - 0 ≤ rdN y.fl y.ta,
 al - 0 ≤ 100000,
 ∀ (i : Nat), i < al - 0 → ∀ (j : Nat), j < 10 → avInt (y.F (0 + i) j) = avInt (y.F i j),
 (Nat.blt 0 (capOr (some al) al) || Nat.beq 0 0) = true,
 (al.ble (capOr (some al) al) && decide (0 ≤ Int.ofNat al)) = true,
 (al.ble (capOr none al) && decide (0 ≤ Int.ofNat al)) = true,
 al.beq 0 = false,
 (al * 80).ble 70368744177664 = true,
 (0 + al).ble al = true,
 Nat.blt 0 al = true,
 spLP n g m f al b K y,
 Both y.S y.R,
 (stN (fun i j => y.F (0 + i) j) (al - 0) != Int.ofNat (K + 1)) = false,
 al - 0 ≤ al,
 al - 0 ≤ 100000,
 (Int.ofNat (al - 0) != Int.ofNat (al - 0)) = false,
 al - 0 = rdN y.fl y.ta,
 (0 : Int) = 0,
 al - 0 ≤ al,
 al - 0 ≤ rdN y.fl y.ta,
 al - 0 ≤ 100000,
 ∀ (i : Nat), i < al - 0 → ∀ (j : Nat), j < 10 → avInt (y.F (0 + i) j) = avInt (y.F i j),
 (Nat.blt 0 (capOr (some al) al) || Nat.beq 0 0) = true,
 (al.ble (capOr (some al) al) && decide (0 ≤ Int.ofNat al)) = true,
 (al.ble (capOr none al) && decide (0 ≤ Int.ofNat al)) = true,
 al.beq 0 = false,
 (al * 80).ble 70368744177664 = true,
 (0 + al).ble al = true,
 Nat.blt 0 al = true,
 ppLP n g m f al b (msN (bgW g) n) (rsN (bgW g) n) K y,
 n ≤ n,
 n ≤ 300,
 ∀ (i : Nat), i < n → 0 ≤ avInt (g i 0),
 decide (Int.ofNat m > 400) = false,
 decide (Int.ofNat n > 300) = false], true) := by kernel_rfl
theorem py_runs (hg : ∀ i, i < n → 0 ≤ avInt (g i 0)) (hg3 : ∀ i, i < n → 0 ≤ avInt (g i 3) ∧ avInt (g i 3) < 18446744073709551616) (hr : ∀ i, i < m → 0 ≤ avInt (f i 0)) (hf : ∀ i, i < m → 0 ≤ avInt (f i 3) ∧ avInt (f i 3) < 18446744073709551616) : Runs (pyRun n g m f) := by
  cases h1 : (decide (Int.ofNat n > 300)) with
  | true => exact ⟨_, _, _, pya_1 n g m f, .inl rfl, (ob_cons h1 ob_nil)⟩
  | false =>
    cases h2 : (decide (Int.ofNat m > 400)) with
    | true => exact ⟨_, _, _, pya_2 n g m f, .inl rfl, (ob_cons h2 (ob_cons h1 ob_nil))⟩
    | false =>
      have hn : n ≤ 300 := by have := of_decide_eq_false h1; simp at this; omega
      have hfin : Fin2 (msN (bgW g) n) (rsN (bgW g) n) n := ⟨fineN _ _, msN_u n (fun i hi => hg3 i hi)⟩
      obtain ⟨K, hK, hok, ha, hz, hp, hrd, hst⟩ := py_ok hr hf hfin hn
      have hall := py_all hf hfin K
      have hbo := hall.fin.fine.both
      have hsy := hall.sy
      by_cases c : pyA m f (msN (bgW g) n) = 0
      · have k0 := hz c
        subst k0
        exact ⟨_, _, _, pyz_1 n g m f _ _ _, .inl rfl, (cj ⟨rfl, hbo, rfl, Nat.le_refl _, Nat.zero_le _, rfl, pp_lz n g m f _ _ _ _ hok c, Nat.le_refl _, hn, hg, h2, h1, trivial⟩)⟩
      · have hlp := pp_lp n g m f _ _ _ _ K (by omega) hok (hp c) c
        generalize pyA m f (msN (bgW g) n) = al at *
        generalize pyB m f (msN (bgW g) n) = b at *
        generalize psN m f (msN (bgW g) n) (rsN (bgW g) n) K = y at *
        have hsp := sp_lp n g m f al b K y (by omega) hsy
        have q1 : al - 0 = rdN y.fl y.ta := by rw [hrd]; rfl
        have q2 : al - 0 ≤ rdN y.fl y.ta := by rw [hrd]; exact Nat.sub_le _ _
        have q3 : ∀ i, i < al - 0 → ∀ j, j < 10 → avInt (y.F (0 + i) j) = avInt (y.F i j) := fun i _ j _ => by rw [Nat.zero_add]
        have q4 : (Nat.blt 0 (capOr (some al) al) || Nat.beq 0 0) = true := by simp [capOr]
        have q5 : (al.ble (capOr (some al) al) && decide (0 ≤ Int.ofNat al)) = true := by simp [capOr]
        have q6 : (al.ble (capOr none al) && decide (0 ≤ Int.ofNat al)) = true := by simp [capOr]
        have q7 : al.beq 0 = false := by
          cases al with
          | zero => exact absurd rfl c
          | succ _ => rfl
        have q8 : (al * 80).ble 70368744177664 = true := Nat.ble_eq_true_of_le (by omega)
        have q9 : (0 + al).ble al = true := Nat.ble_eq_true_of_le (by omega)
        have q10 : Nat.blt 0 al = true := Nat.ble_eq_true_of_le (by omega)
        have q11 : (stN (fun i j => y.F (0 + i) j) (al - 0) != Int.ofNat (K + 1)) = false := by
          have e : (fun i j => y.F (0 + i) j) = y.F := by funext i j; rw [Nat.zero_add]
          rw [e, Nat.sub_zero, hst]; simp
        have q12 : (Int.ofNat (al - 0) != Int.ofNat (al - 0)) = false := by simp
        have l1 : al - 0 ≤ al := Nat.sub_le _ _
        have l2 : al - 0 ≤ 100000 := by omega
        exact ⟨_, _, _, pyp_1 n g m f al b K y, .inl rfl, (cj ⟨q1, rfl, l1, q2, l2, q3, q4, q5, q6, q7, q8, q9, q10, hsp, hbo, q11, l1, l2, q12, q1, rfl, l1, q2, l2, q3, q4, q5, q6, q7, q8, q9, q10, hlp, Nat.le_refl _, hn, hg, h2, h1, trivial⟩)⟩

end
theorem hown : ownKnob Try.prog.godebug = none := by kernel_rfl
theorem hlaidOut : laidOutB Try.prog = true := by kernel_rfl
theorem k92 : flatK Try.prog 4 92 = some wSh := by kernel_rfl
set_option maxRecDepth 100000 in
theorem snapsPlay_runs : LawRuns Try.prog 7 [81, 81] := by
  intro H enc W base args ds p hval hA
  obtain ⟨v0, v1, d0, d1, p0, p1, hargs, rfl, rfl, h0, h1⟩ := trodAll_two (args := args.toArray) hA
  obtain rfl : args = [v0, v1] := by simpa using congrArg Array.toList hargs
  obtain ⟨fuel0, h0⟩ := h0
  obtain ⟨c0, l0, q0, rfl⟩ := okWide_slice Try.underlying81 (hval 0 81 v0 rfl rfl)
  obtain ⟨L0, len0, num0, bit0, hw0, hs0, hl0, hm0, hn0, hob0, hwf0⟩ := open_rows Try.underlying81 k92 (by kernel_rfl) (by decide) (okWide_spot Try.underlying81 (hval 0 81 _ rfl rfl)) (by simpa [Value.cells] using h0)
  have hs0 : L0.slice 4 0 len0 none = some (.slice c0 l0 q0) := hs0
  obtain ⟨fuel1, h1⟩ := h1
  obtain ⟨c1, l1, q1, rfl⟩ := okWide_slice Try.underlying81 (hval 1 81 v1 rfl rfl)
  obtain ⟨L1, len1, num1, bit1, hw1, hs1, hl1, hm1, hn1, hob1, hwf1⟩ := open_rows Try.underlying81 k92 (by kernel_rfl) (by decide) (okWide_spot Try.underlying81 (hval 1 81 _ rfl rfl)) (by simpa [Value.cells] using h1)
  have hs1 : L1.slice 4 0 len1 none = some (.slice c1 l1 q1) := hs1
  obtain ⟨h, x, ob, hr, hx, hob⟩ := py_runs len0 (rowAV wSh num0 bit0) len1 (rowAV wSh num1 bit1) (fun i hi => (u8_range (hwf0 i hi 0 .u8 rfl)).1) (fun i hi => u64_range (hwf0 i hi 3 .u64 rfl)) (fun i hi => (u8_range (hwf1 i hi 0 .u8 rfl)).1) (fun i hi => u64_range (hwf1 i hi 3 .u64 rfl))
  have e0 : inpT [(1, L0), (2, L1)] [] 1 = some L0 := inpT_of rfl
  have e1 : inpT [(1, L0), (2, L1)] [] 2 = some L1 := inpT_of rfl
  exact run_lawG (W := W) (ρ := inpT [(1, L0), (2, L1)] []) Esy_ok hr hx hob (heapRepT (heap := [(1, .arr 4 wSh true len0 (rowAV wSh num0 bit0)), (2, .arr 4 wSh true len1 (rowAV wSh num1 bit1))]) (ls := [(1, L0), (2, L1)]) (tabs := []) (nxt := 3) rfl (by decide) rfl (fun g vs h => by cases h) (rep_cons rfl rfl hob0 (rep_cons rfl rfl hob1 rep_nil))) (xs := [.slice c0 l0 q0, .slice c1 l1 q1])
    (by simp [denL, den, e0, hs0, e1, hs1]) (inpT_fresh (nxt := 3) rfl (Nat.le_refl _)) (inpT_glob (nxt := 3) rfl (by decide))

set_option maxRecDepth 100000 in
theorem snapsPlay_lifted (os : Os) (started : os.Started) (H : Type) (enc : TypeId × Value → H) :
    ReturnsInHanded {} Try.checked os 7 .any (Rows.snapsPlaySpec.pre6 enc Try.prog Try.f7 Rows.snapsPlayRow.domain false) (Rows.snapsPlaySpec.post enc Try.prog Try.f7 false true false false) := by
  refine returnsInHanded_of_change (C := Try.checked) hown started (by kernel_rfl) Try.func7
    (ChangeSpec.witness6 (enc := enc) (C := Try.checked) false ⟨#[], #[.slice none 0 0, .slice none 0 0], []⟩ 8 (by kernel_rfl) (by kernel_rfl) (by kernel_rfl) (by kernel_rfl)) ?_
  intro W base args ds gs before hval0 hW hcnd _
  exact law_contract Try.params7 snapsPlay_runs hlaidOut (of_decide_eq_true (by kernel_rfl)) (by kernel_rfl) Try.underlying4 rfl
    (fun ds hl => by match ds, hl with | [d0, d1], _ => exact ⟨rfl, rfl, rfl⟩) W base args ds gs before hval0 hW

theorem snapsPlay_holds : Rows.SnapsPlaySaid :=
  OpenClaim.holds_of_wide 7 Try.f7 rfl rfl rfl rfl rfl rfl rfl ⟨rfl, rfl, rfl, rfl, rfl⟩ rfl rfl rfl rfl rfl (by kernel_rfl) Try.func7 (by kernel_rfl)
    (of_decide_eq_true (by kernel_rfl)) (by unfold Func.isWrapper; first | (rw [if_pos (by decide +kernel)]; kernel_rfl) | (rw [if_neg (by decide +kernel)]; exact ⟨rfl, rfl⟩))
    (fun os started H enc _ => snapsPlay_lifted os started H enc)

#print axioms snapsPlay_holds
end Go.Proofs.Ytmlfmmnnbdlabaa
