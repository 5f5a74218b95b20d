/-
  For every call, any two points and any steps, HistsOne returns true; its arguments read as before. No condition.
-/
import Derived.Test.YtnecknppajbcdaaHOne
import Derived.Test.YtnecknppajbcdaaEvAux
import Derived.Test.YtnecknppajbcdaaEvJoin
set_option linter.unusedSimpArgs false
set_option linter.unusedVariables false
namespace Go.Proofs.Ytnecknppajbcdaa
open Go.Ev Go.ChangeShapes Go.WideShapes Go.ChangeAt Go.RowKit
theorem ho_runs' (k t c o a y v s k' t' c' o' a' y' v' s' s0 s1 s2 s3 : Int) (ro : 0 ≤ o ∧ o < 256) (ra : 0 ≤ a ∧ a < 256) (ra' : 0 ≤ a' ∧ a' < 256) (r0 : 0 ≤ s0 ∧ s0 < 65536) (r1 : 0 ≤ s1 ∧ s1 < 65536) (r2 : 0 ≤ s2 ∧ s2 < 65536) (r3 : 0 ≤ s3 ∧ s3 < 65536) : Runs (hoRun k t c o a y v s k' t' c' o' a' y' v' s' s0 s1 s2 s3) := by
  have e0 : IntKind.i64.wrap s0 = s0 := i64w (by omega) (by omega)
  have e1 : IntKind.i64.wrap s1 = s1 := i64w (by omega) (by omega)
  have e2 : IntKind.i64.wrap s2 = s2 := i64w (by omega) (by omega)
  have e3 : IntKind.i64.wrap s3 = s3 := i64w (by omega) (by omega)
  have a1 : IntKind.i64.wrap (s0 + s1) = s0 + s1 := i64w (by omega) (by omega)
  have a2 : IntKind.i64.wrap (s0 + s1 + s2) = s0 + s1 + s2 := i64w (by omega) (by omega)
  have a3 : IntKind.i64.wrap (s0 + s1 + s2 + s3) = s0 + s1 + s2 + s3 := i64w (by omega) (by omega)
  have m0 : IntKind.i64.wrap (s0 - 1) = s0 - 1 := i64w (by omega) (by omega)
  have m2 : IntKind.i64.wrap (s0 + s1 + s2 - 1) = s0 + s1 + s2 - 1 := i64w (by omega) (by omega)
  have t1 : o.tmod 16 = o % 16 := Int.tmod_eq_emod_of_nonneg ro.1
  have t2 : o.tmod 8 = o % 8 := Int.tmod_eq_emod_of_nonneg ro.1
  have t3 : a.tmod 2 = a % 2 := Int.tmod_eq_emod_of_nonneg ra.1
  have t4 : a'.tmod 2 = a' % 2 := Int.tmod_eq_emod_of_nonneg ra'.1
  have w1 : IntKind.i64.wrap (o.tmod 16) = o % 16 := by rw [t1]; exact i64w (by omega) (by omega)
  refine ho_runs k t c o a y v s k' t' c' o' a' y' v' s' s0 s1 s2 s3 ?_ ?_ ?_ ?_ ?_ ?_ ?_ ?_ ?_ ?_ ?_ ?_ ?_
  all_goals (try rw [w1]); (try rw [t2]); (try rw [t3]); (try rw [t4]); (try rw [u8m]); (try simp only [e0, e1, e2, e3, a1, a2, a3, m0, m2]); (try omega)
theorem k81 : flatK Try.prog 4 81 = some [.int .u16, .int .u16, .int .u16, .int .u16] := by kernel_rfl
set_option maxRecDepth 100000 in
theorem histsOne_runs : LawRuns Try.prog 10 [60, 60, 81] := by
  intro H enc W base args ds p hval hA
  obtain ⟨v0, v1, v2, d0, d1, d2, p0, p1, p2, hargs, rfl, rfl, h0, h1, h2⟩ := trodAll_three (args := args.toArray) hA
  obtain rfl : args = [v0, v1, v2] := by simpa using congrArg Array.toList hargs
  obtain ⟨k, rk, t, rt, c, rc, o, ro, a, ra, y, ry, v, rv, s, rs, rfl⟩ := open_flat Try.underlying60 k60 (hval 0 60 v0 rfl rfl) h0
  obtain ⟨k', rk', t', rt', c', rc', o', ro', a', ra', y', ry', v', rv', s', rs', rfl⟩ := open_flat Try.underlying60 k60 (hval 1 60 v1 rfl rfl) h1
  obtain ⟨s0, rs0, s1, rs1, s2, rs2, s3, rs3, rfl⟩ := open_flat_arr Try.underlying81 k81 (hval 2 81 v2 rfl rfl) h2
  obtain ⟨h, x, ob, hr, hx, hob⟩ := ho_runs' k t c o a y v s k' t' c' o' a' y' v' s' s0 s1 s2 s3 (u8_range ro) (u8_range ra) (u8_range ra') (u16_range rs0) (u16_range rs1) (u16_range rs2) (u16_range rs3)
  exact run_law' (W := W) (ls := []) EH_ok hr hx hob heapRep_nil (xs := [.agg #[.int .u8 k, .int .i64 t, .int .i64 c, .int .u8 o, .int .u8 a, .int .u64 y, .int .u64 v, .int .i64 s], .agg #[.int .u8 k', .int .i64 t', .int .i64 c', .int .u8 o', .int .u8 a', .int .u64 y', .int .u64 v', .int .i64 s'], .agg #[.int .u16 s0, .int .u16 s1, .int .u16 s2, .int .u16 s3]])
    (by simp [hoArgs, actA, denL, den]) rfl (by decide) (Nat.le_refl _)

set_option maxRecDepth 100000 in
theorem histsOne_lifted (os : Os) (started : os.Started) (H : Type) (enc : TypeId × Value → H) :
    ReturnsInHanded {} Try.checked os 10 .any (Rows.histsOneSpec.pre6 enc Try.prog Try.f10 Rows.histsOneRow.domain false) (Rows.histsOneSpec.post enc Try.prog Try.f10 false true false false) := by
  refine returnsInHanded_of_change (C := Try.checked) hown started (by kernel_rfl) Try.func10
    (ChangeSpec.witness6 (enc := enc) (C := Try.checked) false ⟨#[], #[.agg #[.int .u8 0, .int .i64 0, .int .i64 0, .int .u8 0, .int .u8 0, .int .u64 0, .int .u64 0, .int .i64 0], .agg #[.int .u8 0, .int .i64 0, .int .i64 0, .int .u8 0, .int .u8 0, .int .u64 0, .int .u64 0, .int .i64 0], .agg #[.int .u16 0, .int .u16 0, .int .u16 0, .int .u16 0]], []⟩ 8 (by kernel_rfl) (by kernel_rfl) (by kernel_rfl) (by kernel_rfl)) ?_
  intro W base args ds gs before hval0 hW hcnd _
  exact law_contract Try.params10 histsOne_runs hlaidOut (of_decide_eq_true (by kernel_rfl)) (by kernel_rfl) Try.underlying4 rfl
    (fun ds hl => by match ds, hl with | [d0, d1, d2], _ => exact ⟨rfl, rfl, rfl⟩) W base args ds gs before hval0 hW

theorem histsOne_holds : Rows.HistsOneSaid :=
  OpenClaim.holds_of_wide 10 Try.f10 rfl rfl rfl rfl rfl rfl rfl ⟨rfl, rfl, rfl, rfl, rfl⟩ rfl rfl rfl rfl rfl (by kernel_rfl) Try.func10 (by kernel_rfl)
    (of_decide_eq_true (by kernel_rfl)) (by unfold Func.isWrapper; first | (rw [if_pos (by decide +kernel)]; kernel_rfl) | (rw [if_neg (by decide +kernel)]; exact ⟨rfl, rfl⟩))
    (fun os started H enc _ => histsOne_lifted os started H enc)

#print axioms histsOne_holds

end Go.Proofs.Ytnecknppajbcdaa
