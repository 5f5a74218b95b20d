/-
  For all inputs, MemsVoid returns true. No condition.
-/
import Derived.Test.YtephpkfajobhmaaL02
import Derived.Test.YtephpkfajobhmaaWWn
import Derived.Test.YtephpkfajobhmaaEvLaw
set_option linter.unusedSimpArgs false
set_option linter.unusedVariables false
namespace Go.Proofs.Ytephpkfajobhmaa
open Go.Ev Go.ChangeShapes Go.WideShapes Go.ChangeAt Go.RowKit
set_option maxRecDepth 100000
noncomputable def EMv : Env := envG Try.prog [(20, wdvSP), (21, rawSP l02Spec)]
theorem EMv_ok : EnvOk EMv := envG_ok mgood ⟨wdvSP_ok, rawSP_ok l02Spec_ok, trivial⟩
noncomputable def mvRun (k a f was is_ : Int) (_h : List Hint) : Option (AV × List Prop × Bool) := (callF EMv 5000 3 [.agg [.sym .u8 k, .sym .i64 a, .sym .i64 f], .sym .u64 was, .sym .u64 is_] ⟨[], 1, gnm 0, [], [], [], true⟩).map (fun x => (x.1, x.2.ob, noneIn [] x.2.wr))
theorem mv_run (k a f was is_ : Int) : (callF EMv 5000 3 [.agg [.sym .u8 k, .sym .i64 a, .sym .i64 f], .sym .u64 was, .sym .u64 is_] ⟨[], 1, gnm 0, [], [], [], true⟩).map (fun x => (x.1, x.2.ob, noneIn [] x.2.wr)) = some (.bool true, [], true) := by kernel_rfl
theorem mv_runs (k a f was is_ : Int) : Runs (mvRun k a f was is_) := ⟨[], _, _, mv_run k a f was is_, .inl rfl, ob_nil⟩
theorem hown : ownKnob Try.prog.godebug = none := by kernel_rfl
theorem hlaidOut : laidOutB Try.prog = true := by kernel_rfl
theorem k24 : flatK Try.prog 4 24 = some [.int .u8, .int .i64, .int .i64] := by kernel_rfl
set_option maxRecDepth 100000 in
theorem memsVoid_runs : LawRuns Try.prog 3 [24, 25, 25] := by
  intro H enc W base args ds p hval hA
  obtain ⟨v0, v1, v2, d0, d1, d2, p0, p1, p2, hargs, rfl, rfl, h0, h1, h2⟩ := trodAll_three (args := args.toArray) hA
  obtain rfl : args = [v0, v1, v2] := by simpa using congrArg Array.toList hargs
  obtain ⟨k, rk, a, ra, f, rf, rfl⟩ := open_flat Try.underlying24 k24 (hval 0 24 v0 rfl rfl) h0
  obtain ⟨was, rfl, rwas⟩ := okWide_num Try.underlying25 (hval 1 25 v1 rfl rfl)
  obtain ⟨is_, rfl, ris_⟩ := okWide_num Try.underlying25 (hval 2 25 v2 rfl rfl)
  obtain ⟨h, x, ob, hr, hx, hob⟩ := mv_runs k a f was is_ 
  exact run_lawG (W := W) (ρ := inpT [] []) EMv_ok hr hx hob (heapRepT (heap := []) (ls := []) (tabs := []) (nxt := 1) rfl (by decide) rfl (fun g vs h => by cases h) rep_nil) (xs := [.agg #[.int .u8 k, .int .i64 a, .int .i64 f], .int .u64 was, .int .u64 is_])
    (by simp [denL, den]) (inpT_fresh (nxt := 1) rfl (Nat.le_refl _)) (inpT_glob (nxt := 1) rfl (by decide))

set_option maxRecDepth 100000 in
theorem memsVoid_lifted (os : Os) (started : os.Started) (H : Type) (enc : TypeId × Value → H) :
    ReturnsInHanded {} Try.checked os 3 .any (Rows.memsVoidSpec.pre6 enc Try.prog Try.f3 Rows.memsVoidRow.domain false) (Rows.memsVoidSpec.post enc Try.prog Try.f3 false true false false) := by
  refine returnsInHanded_of_change (C := Try.checked) hown started (by kernel_rfl) Try.func3
    (ChangeSpec.witness6 (enc := enc) (C := Try.checked) false ⟨#[], #[.agg #[.int .u8 0, .int .i64 0, .int .i64 0], .int .u64 0, .int .u64 0], []⟩ 8 (by kernel_rfl) (by kernel_rfl) (by kernel_rfl) (by kernel_rfl)) ?_
  intro W base args ds gs before hval0 hW hcnd _
  exact law_contract Try.params3 memsVoid_runs hlaidOut (of_decide_eq_true (by kernel_rfl)) (by kernel_rfl) Try.underlying4 rfl
    (fun ds hl => by match ds, hl with | [d0, d1, d2], _ => exact ⟨rfl, rfl, rfl⟩) W base args ds gs before hval0 hW

theorem memsVoid_holds : Rows.MemsVoidSaid :=
  OpenClaim.holds_of_wide 3 Try.f3 rfl rfl rfl rfl rfl rfl rfl ⟨rfl, rfl, rfl, rfl, rfl⟩ rfl rfl rfl rfl rfl (by kernel_rfl) Try.func3 (by kernel_rfl)
    (of_decide_eq_true (by kernel_rfl)) (by unfold Func.isWrapper; first | (rw [if_pos (by decide +kernel)]; kernel_rfl) | (rw [if_neg (by decide +kernel)]; exact ⟨rfl, rfl⟩))
    (fun os started H enc _ => memsVoid_lifted os started H enc)

#print axioms memsVoid_holds
end Go.Proofs.Ytephpkfajobhmaa
