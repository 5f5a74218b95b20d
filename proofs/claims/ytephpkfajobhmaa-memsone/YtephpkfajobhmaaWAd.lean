/-
  Addr.
-/
import Derived.Test.YtephpkfajobhmaaWAdDef
set_option linter.unusedSimpArgs false
set_option linter.unusedVariables false
namespace Go.Proofs.Ytephpkfajobhmaa
open Go.Ev
theorem ad_1 (kd at_ fl : Int) : callB EM0 2000 22 [AV.sym IntKind.u8 kd, AV.sym IntKind.u8 at_, AV.sym IntKind.u8 fl] (adH kd at_ fl) (adR kd at_ fl) [] [Hint.l 0] =
 some ([0 = kd.tmod 12,
 (IntKind.i64.wrap at_).tmod 1 = at_.tmod (kAt (kd.tmod 12)),
 (IntKind.i64.wrap fl).tmod 1 = fl.tmod (kFl (kd.tmod 12)),
 kd.tmod 12 = 0]) := by kernel_rfl
theorem ad_2 (kd at_ fl : Int) : callB EM0 2000 22 [AV.sym IntKind.u8 kd, AV.sym IntKind.u8 at_, AV.sym IntKind.u8 fl] (adH kd at_ fl) (adR kd at_ fl) [] [Hint.l 1] =
 some ([1 = kd.tmod 12,
 (IntKind.i64.wrap at_).tmod 1 = at_.tmod (kAt (kd.tmod 12)),
 (IntKind.i64.wrap fl).tmod 1 = fl.tmod (kFl (kd.tmod 12)),
 kd.tmod 12 = 1]) := by kernel_rfl
theorem ad_3 (kd at_ fl : Int) : callB EM0 2000 22 [AV.sym IntKind.u8 kd, AV.sym IntKind.u8 at_, AV.sym IntKind.u8 fl] (adH kd at_ fl) (adR kd at_ fl) [] [Hint.l 2] =
 some ([2 = kd.tmod 12,
 (IntKind.i64.wrap at_).tmod 1 = at_.tmod (kAt (kd.tmod 12)),
 (IntKind.i64.wrap fl).tmod 1 = fl.tmod (kFl (kd.tmod 12)),
 kd.tmod 12 = 2]) := by kernel_rfl
theorem ad_4 (kd at_ fl : Int) : callB EM0 2000 22 [AV.sym IntKind.u8 kd, AV.sym IntKind.u8 at_, AV.sym IntKind.u8 fl] (adH kd at_ fl) (adR kd at_ fl) [] [Hint.l 3] =
 some ([3 = kd.tmod 12,
 (IntKind.i64.wrap at_).tmod 1 = at_.tmod (kAt (kd.tmod 12)),
 (IntKind.i64.wrap fl).tmod 1 = fl.tmod (kFl (kd.tmod 12)),
 kd.tmod 12 = 3]) := by kernel_rfl
theorem ad_5 (kd at_ fl : Int) : callB EM0 2000 22 [AV.sym IntKind.u8 kd, AV.sym IntKind.u8 at_, AV.sym IntKind.u8 fl] (adH kd at_ fl) (adR kd at_ fl) [] [Hint.l 4] =
 some ([4 = kd.tmod 12,
 (IntKind.i64.wrap at_).tmod 1 = at_.tmod (kAt (kd.tmod 12)),
 (IntKind.i64.wrap fl).tmod 1 = fl.tmod (kFl (kd.tmod 12)),
 kd.tmod 12 = 4]) := by kernel_rfl
theorem ad_6 (kd at_ fl : Int) : callB EM0 2000 22 [AV.sym IntKind.u8 kd, AV.sym IntKind.u8 at_, AV.sym IntKind.u8 fl] (adH kd at_ fl) (adR kd at_ fl) [] [Hint.l 5] =
 some ([5 = kd.tmod 12,
 (IntKind.i64.wrap at_).tmod 1 = at_.tmod (kAt (kd.tmod 12)),
 (IntKind.i64.wrap fl).tmod 1 = fl.tmod (kFl (kd.tmod 12)),
 kd.tmod 12 = 5]) := by kernel_rfl
theorem ad_7 (kd at_ fl : Int) : callB EM0 2000 22 [AV.sym IntKind.u8 kd, AV.sym IntKind.u8 at_, AV.sym IntKind.u8 fl] (adH kd at_ fl) (adR kd at_ fl) [] [Hint.l 6] =
 some ([6 = kd.tmod 12,
 (IntKind.i64.wrap at_).tmod 32 = at_.tmod (kAt (kd.tmod 12)),
 (IntKind.i64.wrap fl).tmod 2 = fl.tmod (kFl (kd.tmod 12)),
 kd.tmod 12 = 6]) := by kernel_rfl
theorem ad_8 (kd at_ fl : Int) : callB EM0 2000 22 [AV.sym IntKind.u8 kd, AV.sym IntKind.u8 at_, AV.sym IntKind.u8 fl] (adH kd at_ fl) (adR kd at_ fl) [] [Hint.l 7] =
 some ([7 = kd.tmod 12,
 (IntKind.i64.wrap at_).tmod 4 = at_.tmod (kAt (kd.tmod 12)),
 (IntKind.i64.wrap fl).tmod 1 = fl.tmod (kFl (kd.tmod 12)),
 kd.tmod 12 = 7]) := by kernel_rfl
theorem ad_9 (kd at_ fl : Int) : callB EM0 2000 22 [AV.sym IntKind.u8 kd, AV.sym IntKind.u8 at_, AV.sym IntKind.u8 fl] (adH kd at_ fl) (adR kd at_ fl) [] [Hint.l 8] =
 some ([8 = kd.tmod 12,
 (IntKind.i64.wrap at_).tmod 16 = at_.tmod (kAt (kd.tmod 12)),
 (IntKind.i64.wrap fl).tmod 10 = fl.tmod (kFl (kd.tmod 12)),
 kd.tmod 12 = 8]) := by kernel_rfl
theorem ad_10 (kd at_ fl : Int) : callB EM0 2000 22 [AV.sym IntKind.u8 kd, AV.sym IntKind.u8 at_, AV.sym IntKind.u8 fl] (adH kd at_ fl) (adR kd at_ fl) [] [Hint.l 9] =
 some ([9 = kd.tmod 12,
 (IntKind.i64.wrap at_).tmod 256 = at_.tmod (kAt (kd.tmod 12)),
 (IntKind.i64.wrap fl).tmod 8 = fl.tmod (kFl (kd.tmod 12)),
 kd.tmod 12 = 9]) := by kernel_rfl
theorem ad_11 (kd at_ fl : Int) : callB EM0 2000 22 [AV.sym IntKind.u8 kd, AV.sym IntKind.u8 at_, AV.sym IntKind.u8 fl] (adH kd at_ fl) (adR kd at_ fl) [] [Hint.l 10] =
 some ([10 = kd.tmod 12,
 (IntKind.i64.wrap at_).tmod 9 = at_.tmod (kAt (kd.tmod 12)),
 (IntKind.i64.wrap fl).tmod 1 = fl.tmod (kFl (kd.tmod 12)),
 kd.tmod 12 = 10]) := by kernel_rfl
theorem ad_12 (kd at_ fl : Int) : callB EM0 2000 22 [AV.sym IntKind.u8 kd, AV.sym IntKind.u8 at_, AV.sym IntKind.u8 fl] (adH kd at_ fl) (adR kd at_ fl) [] [Hint.l 11] =
 some ([11 = kd.tmod 12,
 (IntKind.i64.wrap at_).tmod 1 = at_.tmod (kAt (kd.tmod 12)),
 (IntKind.i64.wrap fl).tmod 2 = fl.tmod (kFl (kd.tmod 12)),
 kd.tmod 12 = 11]) := by kernel_rfl
theorem ad_loc (kd at_ fl : Int) : LocOk Try.prog 22 [.sym .u8 kd, .sym .u8 at_, .sym .u8 fl] (adH kd at_ fl) (adR kd at_ fl) := by
  refine loc_of_call EM0_ok (fun hp => ?_)
  have g1 : 0 ≤ kd ∧ kd < 256 := hp _ (List.mem_cons_self ..)
  have g2 : 0 ≤ at_ ∧ at_ < 256 := hp _ (List.mem_cons_of_mem _ (List.mem_cons_self ..))
  have g3 : 0 ≤ fl ∧ fl < 256 := hp _ (List.mem_cons_of_mem _ (List.mem_cons_of_mem _ (List.mem_cons_self ..)))
  clear hp
  have hr : 0 ≤ kd.tmod 12 ∧ kd.tmod 12 < 12 := by rw [Int.tmod_eq_emod_of_nonneg g1.1]; omega
  have w1 : IntKind.i64.wrap at_ = at_ := i64w (by omega) (by omega)
  have w2 : IntKind.i64.wrap fl = fl := i64w (by omega) (by omega)
  have hc : kd.tmod 12 = 0 ∨ kd.tmod 12 = 1 ∨ kd.tmod 12 = 2 ∨ kd.tmod 12 = 3 ∨ kd.tmod 12 = 4 ∨ kd.tmod 12 = 5 ∨ kd.tmod 12 = 6 ∨ kd.tmod 12 = 7 ∨ kd.tmod 12 = 8 ∨ kd.tmod 12 = 9 ∨ kd.tmod 12 = 10 ∨ kd.tmod 12 = 11 := by omega
  rcases hc with hc | hc | hc | hc | hc | hc | hc | hc | hc | hc | hc | hc
  · exact ⟨2000, [.l 0], [], _, ad_1 kd at_ fl, ob_cons hc.symm (ob_cons (by rw [w1, hc]; rfl) (ob_cons (by rw [w2, hc]; rfl) (ob_cons hc ob_nil)))⟩
  · exact ⟨2000, [.l 1], [], _, ad_2 kd at_ fl, ob_cons hc.symm (ob_cons (by rw [w1, hc]; rfl) (ob_cons (by rw [w2, hc]; rfl) (ob_cons hc ob_nil)))⟩
  · exact ⟨2000, [.l 2], [], _, ad_3 kd at_ fl, ob_cons hc.symm (ob_cons (by rw [w1, hc]; rfl) (ob_cons (by rw [w2, hc]; rfl) (ob_cons hc ob_nil)))⟩
  · exact ⟨2000, [.l 3], [], _, ad_4 kd at_ fl, ob_cons hc.symm (ob_cons (by rw [w1, hc]; rfl) (ob_cons (by rw [w2, hc]; rfl) (ob_cons hc ob_nil)))⟩
  · exact ⟨2000, [.l 4], [], _, ad_5 kd at_ fl, ob_cons hc.symm (ob_cons (by rw [w1, hc]; rfl) (ob_cons (by rw [w2, hc]; rfl) (ob_cons hc ob_nil)))⟩
  · exact ⟨2000, [.l 5], [], _, ad_6 kd at_ fl, ob_cons hc.symm (ob_cons (by rw [w1, hc]; rfl) (ob_cons (by rw [w2, hc]; rfl) (ob_cons hc ob_nil)))⟩
  · exact ⟨2000, [.l 6], [], _, ad_7 kd at_ fl, ob_cons hc.symm (ob_cons (by rw [w1, hc]; rfl) (ob_cons (by rw [w2, hc]; rfl) (ob_cons hc ob_nil)))⟩
  · exact ⟨2000, [.l 7], [], _, ad_8 kd at_ fl, ob_cons hc.symm (ob_cons (by rw [w1, hc]; rfl) (ob_cons (by rw [w2, hc]; rfl) (ob_cons hc ob_nil)))⟩
  · exact ⟨2000, [.l 8], [], _, ad_9 kd at_ fl, ob_cons hc.symm (ob_cons (by rw [w1, hc]; rfl) (ob_cons (by rw [w2, hc]; rfl) (ob_cons hc ob_nil)))⟩
  · exact ⟨2000, [.l 9], [], _, ad_10 kd at_ fl, ob_cons hc.symm (ob_cons (by rw [w1, hc]; rfl) (ob_cons (by rw [w2, hc]; rfl) (ob_cons hc ob_nil)))⟩
  · exact ⟨2000, [.l 10], [], _, ad_11 kd at_ fl, ob_cons hc.symm (ob_cons (by rw [w1, hc]; rfl) (ob_cons (by rw [w2, hc]; rfl) (ob_cons hc ob_nil)))⟩
  · exact ⟨2000, [.l 11], [], _, ad_12 kd at_ fl, ob_cons hc.symm (ob_cons (by rw [w1, hc]; rfl) (ob_cons (by rw [w2, hc]; rfl) (ob_cons hc ob_nil)))⟩
noncomputable def adSpec : LSpec := fun la lh => match la, lh with
  | [.sym .u8 kd, .sym .u8 at_, .sym .u8 fl], [] => some (adR kd at_ fl)
  | _, _ => none
theorem adSpec_ok (la : List AV) (lh : List (Nat × AO)) (R : LR) (h : adSpec la lh = some R) : LocOk Try.prog 22 la lh R := by
  unfold adSpec at h
  split at h
  · rename_i kd at_ fl
    cases h
    exact ad_loc kd at_ fl
  · cases h

end Go.Proofs.Ytephpkfajobhmaa
