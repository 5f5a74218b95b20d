/-
  For all inputs, StallsPin returns true. No condition.
-/
import Derived.Test.YtephpkfajobhmaaWRn
set_option linter.unusedSimpArgs false
set_option linter.unusedVariables false
namespace Go.Proofs.Ytephpkfajobhmaa
open Go.Ev Go.ChangeShapes Go.WideShapes Go.ChangeAt Go.RowKit
set_option maxRecDepth 100000
theorem sp_runs (era m0 m1 m2 m3 who : Int) (he : 0 ≤ era ∧ era < 18446744073709551616) (h0 : 0 ≤ m0 ∧ m0 < 256) (h1 : 0 ≤ m1 ∧ m1 < 256) (h2 : 0 ≤ m2 ∧ m2 < 256) (h3 : 0 ≤ m3 ∧ m3 < 256) (hw : 0 ≤ who ∧ who < 256) : Runs (spRun era m0 m1 m2 m3 who) := by
  have hE := tmod_in (n := 1099511627776) he.1 (by decide)
  have a0 := tmod_in (n := 3) h0.1 (by decide)
  have a1 := tmod_in (n := 3) h1.1 (by decide)
  have a2 := tmod_in (n := 3) h2.1 (by decide)
  have a3 := tmod_in (n := 3) h3.1 (by decide)
  have hq := tmod_in (n := 4) hw.1 (by decide)
  have hW : IntKind.i64.wrap (who.tmod 4) = who.tmod 4 := i64w (by omega) (by omega)
  have hW0 : 0 ≤ IntKind.i64.wrap (who.tmod 4) := by omega
  have hW1 : IntKind.i64.wrap (who.tmod 4) < 4 := by omega
  have l0 := sb0_lp m0 m1 m2 m3 who (spF era m0) (spS0 (era.tmod 1099511627776)) h0
  have l1 := sb1_lp m0 m1 m2 m3 who (spF era m0) (spS1 era m0 m1 m2 m3 who) h1
  have l2 := sb2_lp m0 m1 m2 m3 who (spF era m0) (spS2 era m0 m1 m2 m3 who) h2
  have l3 := sb3_lp m0 m1 m2 m3 who (spF era m0) (spS3 era m0 m1 m2 m3 who) h3
  have p0 := PinM.bgm (era.tmod 1099511627776) (IntKind.i64.wrap (who.tmod 4))
  have p1 := PinM.bmpN (S := spS0 (era.tmod 1099511627776)) p0 hE.1 (m0.tmod 3).toNat (by omega)
  have p2 := p1.stall hW0 hW1 18446744073709551615
  have p3 := PinM.bmpN (S := spS1 era m0 m1 m2 m3 who) p2 (by omega) (m1.tmod 3).toNat (by omega)
  have q4 := PinM.bmpN (S := spS2 era m0 m1 m2 m3 who) p3 (by omega) (m2.tmod 3).toNat (by omega)
  have p4 := q4.stall hW0 hW1 (IntKind.u64.wrap (mget (bmpN (m1.tmod 3).toNat (spS1 era m0 m1 m2 m3 who)).M (key 2 0 0) + 1))
  have q5 := PinM.bmpN (S := spS3 era m0 m1 m2 m3 who) p4 (by omega) (m3.tmod 3).toNat (by omega)
  have p5 := q5.cas (mget (bmpN (m1.tmod 3).toNat (spS1 era m0 m1 m2 m3 who)).M (key 2 0 0)) (IntKind.u64.wrap (mget (bmpN (m1.tmod 3).toNat (spS1 era m0 m1 m2 m3 who)).M (key 2 0 0) + 1))
  have p6 := p5.stall hW0 hW1 0
  have hF : spF era m0 = era.tmod 1099511627776 + ((m0.tmod 3).toNat : Int) := p1.era
  have hE1 : IntKind.u64.wrap (mget (bmpN (m1.tmod 3).toNat (spS1 era m0 m1 m2 m3 who)).M (key 2 0 0) + 1) = era.tmod 1099511627776 + ((m0.tmod 3).toNat : Int) + ((m1.tmod 3).toNat : Int) + 1 := by rw [p3.era]; exact u64w (by omega) (by omega)
  have hX := p5.era
  rw [hE1, p3.era] at hX
  have hX2 : era.tmod 1099511627776 + ((m0.tmod 3).toNat : Int) + ((m1.tmod 3).toNat : Int) + 1 ≤ mget (casM (bmpN (m3.tmod 3).toNat (spS3 era m0 m1 m2 m3 who)).M 2 0 0 (mget (bmpN (m1.tmod 3).toNat (spS1 era m0 m1 m2 m3 who)).M (key 2 0 0)) (IntKind.u64.wrap (mget (bmpN (m1.tmod 3).toNat (spS1 era m0 m1 m2 m3 who)).M (key 2 0 0) + 1))) (key 2 0 0) := by
    rw [p5.era, hE1, p3.era]; split <;> omega
  exact ⟨_, _, _, sp_run era m0 m1 m2 m3 who, .inl rfl, (ob_cons (by rw [p6.fl hW0 hW1, if_pos rfl]; rfl) (ob_cons (by first | rfl | decide) (ob_cons (by first | rfl | decide) (ob_cons (by rw [p6.pin hW0 hW1 (by omega)]; simp) (ob_cons (by first | rfl | decide) (ob_cons (by first | rfl | decide) (ob_cons (by exact p6.blk) (ob_cons (by exact p6.own) (ob_cons (by first | rfl | decide) (ob_cons (by rw [p5.pin hW0 hW1 (by omega)]; exact decide_eq_false (by omega)) (ob_cons (by first | rfl | decide) (ob_cons (by first | rfl | decide) (ob_cons (by apply decide_eq_false; rw [hF]; omega) (ob_cons (by exact p5.blk) (ob_cons (by exact p5.own) (ob_cons (by rw [p5.fl hW0 hW1, if_neg (by rw [hE1]; omega)]; simp; omega) (ob_cons (by rw [p5.fl hW0 hW1, if_neg (by rw [hE1]; omega)]; rfl) (ob_cons (by rw [p5.fl hW0 hW1, if_neg (by rw [hE1]; omega)]; rfl) (ob_cons (by rw [p5.fl hW0 hW1, if_neg (by rw [hE1]; omega)]; rfl) (ob_cons (by rw [p5.pin hW0 hW1 (by first | omega | (rw [hF]; omega))]; first | (rw [hE1, hF]; simp; omega) | (rw [hE1]; simp; omega)) (ob_cons (by first | rfl | decide) (ob_cons (by first | rfl | decide) (ob_cons (by rw [p5.pin hW0 hW1 (by first | omega | (rw [hF]; omega))]; first | (rw [hE1, hF]; simp; omega) | (rw [hE1]; simp; omega)) (ob_cons (by first | rfl | decide) (ob_cons (by first | rfl | decide) (ob_cons (by first | rfl | decide) (ob_cons (by first | rfl | decide) (ob_cons (by exact p5.blk) (ob_cons (by exact p5.own) (ob_cons (by first | rfl | decide) (ob_cons (by exact l3) (ob_cons (by rw [p4.fl hW0 hW1, if_neg (by rw [hE1]; omega)]; simp; omega) (ob_cons (by rw [p4.fl hW0 hW1, if_neg (by rw [hE1]; omega)]; rfl) (ob_cons (by rw [p4.fl hW0 hW1, if_neg (by rw [hE1]; omega)]; rfl) (ob_cons (by rw [p4.fl hW0 hW1, if_neg (by rw [hE1]; omega)]; rfl) (ob_cons (by rw [p4.pin hW0 hW1 (by first | omega | (rw [hF]; omega))]; first | (rw [hE1, hF]; simp; omega) | (rw [hE1]; simp; omega)) (ob_cons (by first | rfl | decide) (ob_cons (by first | rfl | decide) (ob_cons (by rw [p4.pin hW0 hW1 (by first | omega | (rw [hF]; omega))]; first | (rw [hE1, hF]; simp; omega) | (rw [hE1]; simp; omega)) (ob_cons (by first | rfl | decide) (ob_cons (by first | rfl | decide) (ob_cons (by first | rfl | decide) (ob_cons (by first | rfl | decide) (ob_cons (by exact p4.blk) (ob_cons (by exact p4.own) (ob_cons (by first | rfl | decide) (ob_cons (by exact l2) (ob_cons (by rw [p3.fl hW0 hW1, if_neg (by decide)]; simp; omega) (ob_cons (by rw [p3.fl hW0 hW1, if_neg (by decide)]; rfl) (ob_cons (by rw [p3.fl hW0 hW1, if_neg (by decide)]; rfl) (ob_cons (by rw [p3.fl hW0 hW1, if_neg (by decide)]; rfl) (ob_cons (by rw [p3.pin hW0 hW1 (by first | omega | (rw [hF]; omega))]; first | (rw [hF]; simp; omega) | (simp; done) | (simp; omega)) (ob_cons (by first | rfl | decide) (ob_cons (by first | rfl | decide) (ob_cons (by rw [p3.pin hW0 hW1 (by first | omega | (rw [hF]; omega))]; first | (rw [hF]; simp; omega) | (simp; done) | (simp; omega)) (ob_cons (by first | rfl | decide) (ob_cons (by first | rfl | decide) (ob_cons (by first | rfl | decide) (ob_cons (by first | rfl | decide) (ob_cons (by exact p3.blk) (ob_cons (by exact p3.own) (ob_cons (by exact l1) (ob_cons (by rw [p2.fl hW0 hW1, if_neg (by decide)]; simp; omega) (ob_cons (by rw [p2.fl hW0 hW1, if_neg (by decide)]; rfl) (ob_cons (by rw [p2.fl hW0 hW1, if_neg (by decide)]; rfl) (ob_cons (by rw [p2.fl hW0 hW1, if_neg (by decide)]; rfl) (ob_cons (by rw [p2.pin hW0 hW1 (by first | omega | (rw [p1.era]; omega))]; first | (simp; done) | (rw [p1.era]; simp; omega) | (simp; omega)) (ob_cons (by first | rfl | decide) (ob_cons (by first | rfl | decide) (ob_cons (by rw [p2.pin hW0 hW1 (by first | omega | (rw [p1.era]; omega))]; first | (simp; done) | (rw [p1.era]; simp; omega) | (simp; omega)) (ob_cons (by first | rfl | decide) (ob_cons (by first | rfl | decide) (ob_cons (by first | rfl | decide) (ob_cons (by first | rfl | decide) (ob_cons (by exact p2.blk) (ob_cons (by exact p2.own) (ob_cons (by first | rfl | decide) (ob_cons (by exact l0) (ob_cons (by rw [p0.pin hW0 hW1 (by omega)]; simp) (ob_cons (by first | rfl | decide) (ob_cons (by first | rfl | decide) (ob_cons (by first | rfl | decide) (ob_cons (by exact p0.own) (ob_cons (by apply decide_eq_false; omega) (ob_cons (by apply decide_eq_false; omega) ob_nil)))))))))))))))))))))))))))))))))))))))))))))))))))))))))))))))))))))))))))))))))))))⟩
theorem hown : ownKnob Try.prog.godebug = none := by kernel_rfl
theorem hlaidOut : laidOutB Try.prog = true := by kernel_rfl
theorem k76 : flatK Try.prog 4 76 = some [.int .u8, .int .u8, .int .u8, .int .u8] := by kernel_rfl
set_option maxRecDepth 100000 in
theorem stallsPin_runs : LawRuns Try.prog 8 [25, 76, 5] := by
  intro H enc W base args ds p hval hA
  obtain ⟨v0, v1, v2, d0, d1, d2, p0, p1, p2, hargs, rfl, rfl, h0, h1, h2⟩ := trodAll_three (args := args.toArray) hA
  obtain rfl : args = [v0, v1, v2] := by simpa using congrArg Array.toList hargs
  obtain ⟨era, rfl, rera⟩ := okWide_num Try.underlying25 (hval 0 25 v0 rfl rfl)
  obtain ⟨m0, rm0, m1, rm1, m2, rm2, m3, rm3, rfl⟩ := open_flat_arr Try.underlying76 k76 (hval 1 76 v1 rfl rfl) h1
  obtain ⟨who, rfl, rwho⟩ := okWide_num Try.underlying5 (hval 2 5 v2 rfl rfl)
  obtain ⟨h, x, ob, hr, hx, hob⟩ := sp_runs era m0 m1 m2 m3 who (u64_range rera) (u8_range rm0) (u8_range rm1) (u8_range rm2) (u8_range rm3) (u8_range rwho)
  exact run_lawG (W := W) (ρ := inpT [] []) ESp_ok hr hx hob (heapRepT (heap := []) (ls := []) (tabs := []) (nxt := 1) rfl (by decide) rfl (fun g vs h => by cases h) rep_nil) (xs := [.int .u64 era, .agg #[.int .u8 m0, .int .u8 m1, .int .u8 m2, .int .u8 m3], .int .u8 who])
    (by simp [denL, den]) (inpT_fresh (nxt := 1) rfl (Nat.le_refl _)) (inpT_glob (nxt := 1) rfl (by decide))

set_option maxRecDepth 100000 in
theorem stallsPin_lifted (os : Os) (started : os.Started) (H : Type) (enc : TypeId × Value → H) :
    ReturnsInHanded {} Try.checked os 8 .any (Rows.stallsPinSpec.pre6 enc Try.prog Try.f8 Rows.stallsPinRow.domain false) (Rows.stallsPinSpec.post enc Try.prog Try.f8 false true false false) := by
  refine returnsInHanded_of_change (C := Try.checked) hown started (by kernel_rfl) Try.func8
    (ChangeSpec.witness6 (enc := enc) (C := Try.checked) false ⟨#[], #[.int .u64 0, .agg #[.int .u8 0, .int .u8 0, .int .u8 0, .int .u8 0], .int .u8 0], []⟩ 8 (by kernel_rfl) (by kernel_rfl) (by kernel_rfl) (by kernel_rfl)) ?_
  intro W base args ds gs before hval0 hW hcnd _
  exact law_contract Try.params8 stallsPin_runs hlaidOut (of_decide_eq_true (by kernel_rfl)) (by kernel_rfl) Try.underlying4 rfl
    (fun ds hl => by match ds, hl with | [d0, d1, d2], _ => exact ⟨rfl, rfl, rfl⟩) W base args ds gs before hval0 hW

theorem stallsPin_holds : Rows.StallsPinSaid :=
  OpenClaim.holds_of_wide 8 Try.f8 rfl rfl rfl rfl rfl rfl rfl ⟨rfl, rfl, rfl, rfl, rfl⟩ rfl rfl rfl rfl rfl (by kernel_rfl) Try.func8 (by kernel_rfl)
    (of_decide_eq_true (by kernel_rfl)) (by unfold Func.isWrapper; first | (rw [if_pos (by decide +kernel)]; kernel_rfl) | (rw [if_neg (by decide +kernel)]; exact ⟨rfl, rfl⟩))
    (fun os started H enc _ => stallsPin_lifted os started H enc)

#print axioms stallsPin_holds
end Go.Proofs.Ytephpkfajobhmaa
