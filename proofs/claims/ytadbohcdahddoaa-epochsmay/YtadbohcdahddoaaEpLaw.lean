/-
  For all inputs, EpochsMay returns true; its argument reads as before. No condition.
-/
import Derived.Test.YtadbohcdahddoaaEpLawDef
import Derived.Test.YtadbohcdahddoaaEvJoin
set_option linter.unusedSimpArgs false
set_option linter.unusedVariables false
namespace Go.Proofs.Ytadbohcdahddoaa
open Go.Ev Go.ChangeShapes Go.WideShapes Go.ChangeAt Go.RowKit
section
variable (a b y t : Int)
theorem em_1 : (callF EH 2000 5 [AV.agg [AV.sym IntKind.u64 a, AV.sym IntKind.u64 b], AV.sym IntKind.u8 y, AV.sym IntKind.i64 t] ⟨[], 1, gnm 0, [Hint.node [(13, [Hint.b false])], Hint.b false, Hint.node [(13, [Hint.b false])], Hint.b false, Hint.node [(13, [Hint.b false])], Hint.b false, Hint.node [(13, [Hint.b false])], Hint.b false, Hint.b true, Hint.b true, Hint.b true], [], [], false⟩).map (fun x => (x.1, x.2.ob, noneIn [] x.2.wr)) =
 some (AV.bool true, [decide (t < 0) = true,
 decide (t < 0) = true,
 decide (t < 0) = true,
 ((mayB (IntKind.u64.wrap (18446744073709551615 - (IntKind.u64.wrap y).tmod 4)) a == mayB (IntKind.u64.wrap (18446744073709551615 - (IntKind.u64.wrap y).tmod 4)) a) == false) = false,
 0 ≤ IntKind.u64.wrap (18446744073709551615 - (IntKind.u64.wrap y).tmod 4),
 IntKind.u64.wrap (18446744073709551615 - (IntKind.u64.wrap y).tmod 4) < 18446744073709551616,
 0 ≤ a,
 a < 18446744073709551616,
 0 ≤ IntKind.u64.wrap (18446744073709551615 - (IntKind.u64.wrap y).tmod 4),
 IntKind.u64.wrap (18446744073709551615 - (IntKind.u64.wrap y).tmod 4) < 18446744073709551616,
 0 ≤ a,
 a < 18446744073709551616,
 ((mayB a (IntKind.u64.wrap (18446744073709551615 - (IntKind.u64.wrap y).tmod 4)) == mayB a (IntKind.u64.wrap (18446744073709551615 - (IntKind.u64.wrap y).tmod 4))) == false) = false,
 0 ≤ a,
 a < 18446744073709551616,
 0 ≤ IntKind.u64.wrap (18446744073709551615 - (IntKind.u64.wrap y).tmod 4),
 IntKind.u64.wrap (18446744073709551615 - (IntKind.u64.wrap y).tmod 4) < 18446744073709551616,
 0 ≤ a,
 a < 18446744073709551616,
 0 ≤ IntKind.u64.wrap (18446744073709551615 - (IntKind.u64.wrap y).tmod 4),
 IntKind.u64.wrap (18446744073709551615 - (IntKind.u64.wrap y).tmod 4) < 18446744073709551616,
 ((mayB (IntKind.u64.wrap (a - (IntKind.u64.wrap y).tmod 4)) a == mayB (IntKind.u64.wrap (a - (IntKind.u64.wrap y).tmod 4)) a) == false) = false,
 0 ≤ IntKind.u64.wrap (a - (IntKind.u64.wrap y).tmod 4),
 IntKind.u64.wrap (a - (IntKind.u64.wrap y).tmod 4) < 18446744073709551616,
 0 ≤ a,
 a < 18446744073709551616,
 0 ≤ IntKind.u64.wrap (a - (IntKind.u64.wrap y).tmod 4),
 IntKind.u64.wrap (a - (IntKind.u64.wrap y).tmod 4) < 18446744073709551616,
 0 ≤ a,
 a < 18446744073709551616,
 ((mayB a (IntKind.u64.wrap (a - (IntKind.u64.wrap y).tmod 4)) == mayB a (IntKind.u64.wrap (a - (IntKind.u64.wrap y).tmod 4))) == false) = false,
 0 ≤ a,
 a < 18446744073709551616,
 0 ≤ IntKind.u64.wrap (a - (IntKind.u64.wrap y).tmod 4),
 IntKind.u64.wrap (a - (IntKind.u64.wrap y).tmod 4) < 18446744073709551616,
 0 ≤ a,
 a < 18446744073709551616,
 0 ≤ IntKind.u64.wrap (a - (IntKind.u64.wrap y).tmod 4),
 IntKind.u64.wrap (a - (IntKind.u64.wrap y).tmod 4) < 18446744073709551616,
 ((mayB (IntKind.u64.wrap (a + (IntKind.u64.wrap y).tmod 4)) a == mayB (IntKind.u64.wrap (a + (IntKind.u64.wrap y).tmod 4)) a) == false) = false,
 0 ≤ IntKind.u64.wrap (a + (IntKind.u64.wrap y).tmod 4),
 IntKind.u64.wrap (a + (IntKind.u64.wrap y).tmod 4) < 18446744073709551616,
 0 ≤ a,
 a < 18446744073709551616,
 0 ≤ IntKind.u64.wrap (a + (IntKind.u64.wrap y).tmod 4),
 IntKind.u64.wrap (a + (IntKind.u64.wrap y).tmod 4) < 18446744073709551616,
 0 ≤ a,
 a < 18446744073709551616,
 ((mayB a (IntKind.u64.wrap (a + (IntKind.u64.wrap y).tmod 4)) == mayB a (IntKind.u64.wrap (a + (IntKind.u64.wrap y).tmod 4))) == false) = false,
 0 ≤ a,
 a < 18446744073709551616,
 0 ≤ IntKind.u64.wrap (a + (IntKind.u64.wrap y).tmod 4),
 IntKind.u64.wrap (a + (IntKind.u64.wrap y).tmod 4) < 18446744073709551616,
 0 ≤ a,
 a < 18446744073709551616,
 0 ≤ IntKind.u64.wrap (a + (IntKind.u64.wrap y).tmod 4),
 IntKind.u64.wrap (a + (IntKind.u64.wrap y).tmod 4) < 18446744073709551616,
 ((mayB b a == mayB b a) == false) = false,
 0 ≤ b,
 b < 18446744073709551616,
 0 ≤ a,
 a < 18446744073709551616,
 0 ≤ b,
 b < 18446744073709551616,
 0 ≤ a,
 a < 18446744073709551616,
 ((mayB a b == mayB a b) == false) = false,
 0 ≤ a,
 a < 18446744073709551616,
 0 ≤ b,
 b < 18446744073709551616,
 0 ≤ a,
 a < 18446744073709551616,
 0 ≤ b,
 b < 18446744073709551616], true) := by kernel_rfl
theorem em_2 : (callF EH 2000 5 [AV.agg [AV.sym IntKind.u64 a, AV.sym IntKind.u64 b], AV.sym IntKind.u8 y, AV.sym IntKind.i64 t] ⟨[], 1, gnm 0, [Hint.node [(13, [Hint.b false])], Hint.b false, Hint.node [(13, [Hint.b false])], Hint.b false, Hint.node [(13, [Hint.b false])], Hint.b false, Hint.node [(13, [Hint.b false])], Hint.b false, Hint.b false, Hint.b true, Hint.b false, Hint.b true, Hint.b false, Hint.b true], [], [], false⟩).map (fun x => (x.1, x.2.ob, noneIn [] x.2.wr)) =
 some (AV.bool true, [decide (t ≥ 16) = true,
 decide (t < 0) = false,
 decide (t ≥ 16) = true,
 decide (t < 0) = false,
 decide (t > 15) = true,
 decide (t < 0) = false,
 ((mayB (IntKind.u64.wrap (18446744073709551615 - (IntKind.u64.wrap y).tmod 4)) a == mayB (IntKind.u64.wrap (18446744073709551615 - (IntKind.u64.wrap y).tmod 4)) a) == false) = false,
 0 ≤ IntKind.u64.wrap (18446744073709551615 - (IntKind.u64.wrap y).tmod 4),
 IntKind.u64.wrap (18446744073709551615 - (IntKind.u64.wrap y).tmod 4) < 18446744073709551616,
 0 ≤ a,
 a < 18446744073709551616,
 0 ≤ IntKind.u64.wrap (18446744073709551615 - (IntKind.u64.wrap y).tmod 4),
 IntKind.u64.wrap (18446744073709551615 - (IntKind.u64.wrap y).tmod 4) < 18446744073709551616,
 0 ≤ a,
 a < 18446744073709551616,
 ((mayB a (IntKind.u64.wrap (18446744073709551615 - (IntKind.u64.wrap y).tmod 4)) == mayB a (IntKind.u64.wrap (18446744073709551615 - (IntKind.u64.wrap y).tmod 4))) == false) = false,
 0 ≤ a,
 a < 18446744073709551616,
 0 ≤ IntKind.u64.wrap (18446744073709551615 - (IntKind.u64.wrap y).tmod 4),
 IntKind.u64.wrap (18446744073709551615 - (IntKind.u64.wrap y).tmod 4) < 18446744073709551616,
 0 ≤ a,
 a < 18446744073709551616,
 0 ≤ IntKind.u64.wrap (18446744073709551615 - (IntKind.u64.wrap y).tmod 4),
 IntKind.u64.wrap (18446744073709551615 - (IntKind.u64.wrap y).tmod 4) < 18446744073709551616,
 ((mayB (IntKind.u64.wrap (a - (IntKind.u64.wrap y).tmod 4)) a == mayB (IntKind.u64.wrap (a - (IntKind.u64.wrap y).tmod 4)) a) == false) = false,
 0 ≤ IntKind.u64.wrap (a - (IntKind.u64.wrap y).tmod 4),
 IntKind.u64.wrap (a - (IntKind.u64.wrap y).tmod 4) < 18446744073709551616,
 0 ≤ a,
 a < 18446744073709551616,
 0 ≤ IntKind.u64.wrap (a - (IntKind.u64.wrap y).tmod 4),
 IntKind.u64.wrap (a - (IntKind.u64.wrap y).tmod 4) < 18446744073709551616,
 0 ≤ a,
 a < 18446744073709551616,
 ((mayB a (IntKind.u64.wrap (a - (IntKind.u64.wrap y).tmod 4)) == mayB a (IntKind.u64.wrap (a - (IntKind.u64.wrap y).tmod 4))) == false) = false,
 0 ≤ a,
 a < 18446744073709551616,
 0 ≤ IntKind.u64.wrap (a - (IntKind.u64.wrap y).tmod 4),
 IntKind.u64.wrap (a - (IntKind.u64.wrap y).tmod 4) < 18446744073709551616,
 0 ≤ a,
 a < 18446744073709551616,
 0 ≤ IntKind.u64.wrap (a - (IntKind.u64.wrap y).tmod 4),
 IntKind.u64.wrap (a - (IntKind.u64.wrap y).tmod 4) < 18446744073709551616,
 ((mayB (IntKind.u64.wrap (a + (IntKind.u64.wrap y).tmod 4)) a == mayB (IntKind.u64.wrap (a + (IntKind.u64.wrap y).tmod 4)) a) == false) = false,
 0 ≤ IntKind.u64.wrap (a + (IntKind.u64.wrap y).tmod 4),
 IntKind.u64.wrap (a + (IntKind.u64.wrap y).tmod 4) < 18446744073709551616,
 0 ≤ a,
 a < 18446744073709551616,
 0 ≤ IntKind.u64.wrap (a + (IntKind.u64.wrap y).tmod 4),
 IntKind.u64.wrap (a + (IntKind.u64.wrap y).tmod 4) < 18446744073709551616,
 0 ≤ a,
 a < 18446744073709551616,
 ((mayB a (IntKind.u64.wrap (a + (IntKind.u64.wrap y).tmod 4)) == mayB a (IntKind.u64.wrap (a + (IntKind.u64.wrap y).tmod 4))) == false) = false,
 0 ≤ a,
 a < 18446744073709551616,
 0 ≤ IntKind.u64.wrap (a + (IntKind.u64.wrap y).tmod 4),
 IntKind.u64.wrap (a + (IntKind.u64.wrap y).tmod 4) < 18446744073709551616,
 0 ≤ a,
 a < 18446744073709551616,
 0 ≤ IntKind.u64.wrap (a + (IntKind.u64.wrap y).tmod 4),
 IntKind.u64.wrap (a + (IntKind.u64.wrap y).tmod 4) < 18446744073709551616,
 ((mayB b a == mayB b a) == false) = false,
 0 ≤ b,
 b < 18446744073709551616,
 0 ≤ a,
 a < 18446744073709551616,
 0 ≤ b,
 b < 18446744073709551616,
 0 ≤ a,
 a < 18446744073709551616,
 ((mayB a b == mayB a b) == false) = false,
 0 ≤ a,
 a < 18446744073709551616,
 0 ≤ b,
 b < 18446744073709551616,
 0 ≤ a,
 a < 18446744073709551616,
 0 ≤ b,
 b < 18446744073709551616], true) := by kernel_rfl
theorem em_3 : (callF EH 2000 5 [AV.agg [AV.sym IntKind.u64 a, AV.sym IntKind.u64 b], AV.sym IntKind.u8 y, AV.sym IntKind.i64 t] ⟨[], 1, gnm 0, [Hint.node [(13, [Hint.b false])], Hint.b false, Hint.node [(13, [Hint.b false])], Hint.b false, Hint.node [(13, [Hint.b false])], Hint.b false, Hint.node [(13, [Hint.b false])], Hint.b false, Hint.b false, Hint.b false], [], [], false⟩).map (fun x => (x.1, x.2.ob, noneIn [] x.2.wr)) =
 some (AV.bool true, [decide (t > 15) = false,
 decide (t < 0) = false,
 ((mayB (IntKind.u64.wrap (18446744073709551615 - (IntKind.u64.wrap y).tmod 4)) a == mayB (IntKind.u64.wrap (18446744073709551615 - (IntKind.u64.wrap y).tmod 4)) a) == false) = false,
 0 ≤ IntKind.u64.wrap (18446744073709551615 - (IntKind.u64.wrap y).tmod 4),
 IntKind.u64.wrap (18446744073709551615 - (IntKind.u64.wrap y).tmod 4) < 18446744073709551616,
 0 ≤ a,
 a < 18446744073709551616,
 0 ≤ IntKind.u64.wrap (18446744073709551615 - (IntKind.u64.wrap y).tmod 4),
 IntKind.u64.wrap (18446744073709551615 - (IntKind.u64.wrap y).tmod 4) < 18446744073709551616,
 0 ≤ a,
 a < 18446744073709551616,
 ((mayB a (IntKind.u64.wrap (18446744073709551615 - (IntKind.u64.wrap y).tmod 4)) == mayB a (IntKind.u64.wrap (18446744073709551615 - (IntKind.u64.wrap y).tmod 4))) == false) = false,
 0 ≤ a,
 a < 18446744073709551616,
 0 ≤ IntKind.u64.wrap (18446744073709551615 - (IntKind.u64.wrap y).tmod 4),
 IntKind.u64.wrap (18446744073709551615 - (IntKind.u64.wrap y).tmod 4) < 18446744073709551616,
 0 ≤ a,
 a < 18446744073709551616,
 0 ≤ IntKind.u64.wrap (18446744073709551615 - (IntKind.u64.wrap y).tmod 4),
 IntKind.u64.wrap (18446744073709551615 - (IntKind.u64.wrap y).tmod 4) < 18446744073709551616,
 ((mayB (IntKind.u64.wrap (a - (IntKind.u64.wrap y).tmod 4)) a == mayB (IntKind.u64.wrap (a - (IntKind.u64.wrap y).tmod 4)) a) == false) = false,
 0 ≤ IntKind.u64.wrap (a - (IntKind.u64.wrap y).tmod 4),
 IntKind.u64.wrap (a - (IntKind.u64.wrap y).tmod 4) < 18446744073709551616,
 0 ≤ a,
 a < 18446744073709551616,
 0 ≤ IntKind.u64.wrap (a - (IntKind.u64.wrap y).tmod 4),
 IntKind.u64.wrap (a - (IntKind.u64.wrap y).tmod 4) < 18446744073709551616,
 0 ≤ a,
 a < 18446744073709551616,
 ((mayB a (IntKind.u64.wrap (a - (IntKind.u64.wrap y).tmod 4)) == mayB a (IntKind.u64.wrap (a - (IntKind.u64.wrap y).tmod 4))) == false) = false,
 0 ≤ a,
 a < 18446744073709551616,
 0 ≤ IntKind.u64.wrap (a - (IntKind.u64.wrap y).tmod 4),
 IntKind.u64.wrap (a - (IntKind.u64.wrap y).tmod 4) < 18446744073709551616,
 0 ≤ a,
 a < 18446744073709551616,
 0 ≤ IntKind.u64.wrap (a - (IntKind.u64.wrap y).tmod 4),
 IntKind.u64.wrap (a - (IntKind.u64.wrap y).tmod 4) < 18446744073709551616,
 ((mayB (IntKind.u64.wrap (a + (IntKind.u64.wrap y).tmod 4)) a == mayB (IntKind.u64.wrap (a + (IntKind.u64.wrap y).tmod 4)) a) == false) = false,
 0 ≤ IntKind.u64.wrap (a + (IntKind.u64.wrap y).tmod 4),
 IntKind.u64.wrap (a + (IntKind.u64.wrap y).tmod 4) < 18446744073709551616,
 0 ≤ a,
 a < 18446744073709551616,
 0 ≤ IntKind.u64.wrap (a + (IntKind.u64.wrap y).tmod 4),
 IntKind.u64.wrap (a + (IntKind.u64.wrap y).tmod 4) < 18446744073709551616,
 0 ≤ a,
 a < 18446744073709551616,
 ((mayB a (IntKind.u64.wrap (a + (IntKind.u64.wrap y).tmod 4)) == mayB a (IntKind.u64.wrap (a + (IntKind.u64.wrap y).tmod 4))) == false) = false,
 0 ≤ a,
 a < 18446744073709551616,
 0 ≤ IntKind.u64.wrap (a + (IntKind.u64.wrap y).tmod 4),
 IntKind.u64.wrap (a + (IntKind.u64.wrap y).tmod 4) < 18446744073709551616,
 0 ≤ a,
 a < 18446744073709551616,
 0 ≤ IntKind.u64.wrap (a + (IntKind.u64.wrap y).tmod 4),
 IntKind.u64.wrap (a + (IntKind.u64.wrap y).tmod 4) < 18446744073709551616,
 ((mayB b a == mayB b a) == false) = false,
 0 ≤ b,
 b < 18446744073709551616,
 0 ≤ a,
 a < 18446744073709551616,
 0 ≤ b,
 b < 18446744073709551616,
 0 ≤ a,
 a < 18446744073709551616,
 ((mayB a b == mayB a b) == false) = false,
 0 ≤ a,
 a < 18446744073709551616,
 0 ≤ b,
 b < 18446744073709551616,
 0 ≤ a,
 a < 18446744073709551616,
 0 ≤ b,
 b < 18446744073709551616], true) := by kernel_rfl
theorem em_runs (ra : 0 ≤ a ∧ a < 18446744073709551616) (rb : 0 ≤ b ∧ b < 18446744073709551616) : Runs (emRun a b y t) := by
  cases h1 : (decide (t < 0)) with
  | true =>
    have g1 := of_decide_eq_true h1
    try simp only [Int.ofNat_eq_natCast, ge_iff_le, gt_iff_lt, Int.not_lt, Int.not_le] at g1
    refine ⟨_, _, _, em_1 a b y t, .inl rfl, (ob_cons h1 (ob_cons h1 (ob_cons h1 (ob_cons ?_ (ob_cons ?_ (ob_cons ?_ (ob_cons ?_ (ob_cons ?_ (ob_cons ?_ (ob_cons ?_ (ob_cons ?_ (ob_cons ?_ (ob_cons ?_ (ob_cons ?_ (ob_cons ?_ (ob_cons ?_ (ob_cons ?_ (ob_cons ?_ (ob_cons ?_ (ob_cons ?_ (ob_cons ?_ (ob_cons ?_ (ob_cons ?_ (ob_cons ?_ (ob_cons ?_ (ob_cons ?_ (ob_cons ?_ (ob_cons ?_ (ob_cons ?_ (ob_cons ?_ (ob_cons ?_ (ob_cons ?_ (ob_cons ?_ (ob_cons ?_ (ob_cons ?_ (ob_cons ?_ (ob_cons ?_ (ob_cons ?_ (ob_cons ?_ (ob_cons ?_ (ob_cons ?_ (ob_cons ?_ (ob_cons ?_ (ob_cons ?_ (ob_cons ?_ (ob_cons ?_ (ob_cons ?_ (ob_cons ?_ (ob_cons ?_ (ob_cons ?_ (ob_cons ?_ (ob_cons ?_ (ob_cons ?_ (ob_cons ?_ (ob_cons ?_ (ob_cons ?_ (ob_cons ?_ (ob_cons ?_ (ob_cons ?_ (ob_cons ?_ (ob_cons ?_ (ob_cons ?_ (ob_cons ?_ (ob_cons ?_ (ob_cons ?_ (ob_cons ?_ (ob_cons ?_ (ob_cons ?_ (ob_cons ?_ (ob_cons ?_ (ob_cons ?_ (ob_cons ?_ (ob_cons ?_ (ob_cons ?_ (ob_cons ?_ ob_nil)))))))))))))))))))))))))))))))))))))))))))))))))))))))))))))))))))))))))))⟩
    · -- ((mayB (IntKind.u64.wrap (18446744073709551615 - (IntKind.u64.wrap y).tmod 4)) a ==       mayB (IntKind.u64.wrap (18446744073709551615 - (IntKind.u64.wrap y).tmod 4)) a) ==     false) =   false
      first | (apply Nat.ble_eq_true_of_le; omega) | (simp [Nat.blt_eq]; omega) | exact eq_no | exact (u64r _).1 | exact (u64r _).2 | omega | exact decide_eq_false (by omega) | exact decide_eq_true (by omega)
    · -- 0 ≤ IntKind.u64.wrap (18446744073709551615 - (IntKind.u64.wrap y).tmod 4)
      first | exact Nat.le_refl _ | omega | exact eq_no | exact (u64r _).1 | exact (u64r _).2 | omega | exact decide_eq_false (by omega) | exact decide_eq_true (by omega)
    · -- IntKind.u64.wrap (18446744073709551615 - (IntKind.u64.wrap y).tmod 4) < 18446744073709551616
      first | omega | exact eq_no | exact (u64r _).1 | exact (u64r _).2 | omega | exact decide_eq_false (by omega) | exact decide_eq_true (by omega)
    · -- 0 ≤ a
      first | exact Nat.le_refl _ | omega | exact eq_no | exact (u64r _).1 | exact (u64r _).2 | omega | exact decide_eq_false (by omega) | exact decide_eq_true (by omega)
    · -- a < 18446744073709551616
      first | omega | exact eq_no | exact (u64r _).1 | exact (u64r _).2 | omega | exact decide_eq_false (by omega) | exact decide_eq_true (by omega)
    · -- 0 ≤ IntKind.u64.wrap (18446744073709551615 - (IntKind.u64.wrap y).tmod 4)
      first | exact Nat.le_refl _ | omega | exact eq_no | exact (u64r _).1 | exact (u64r _).2 | omega | exact decide_eq_false (by omega) | exact decide_eq_true (by omega)
    · -- IntKind.u64.wrap (18446744073709551615 - (IntKind.u64.wrap y).tmod 4) < 18446744073709551616
      first | omega | exact eq_no | exact (u64r _).1 | exact (u64r _).2 | omega | exact decide_eq_false (by omega) | exact decide_eq_true (by omega)
    · -- 0 ≤ a
      first | exact Nat.le_refl _ | omega | exact eq_no | exact (u64r _).1 | exact (u64r _).2 | omega | exact decide_eq_false (by omega) | exact decide_eq_true (by omega)
    · -- a < 18446744073709551616
      first | omega | exact eq_no | exact (u64r _).1 | exact (u64r _).2 | omega | exact decide_eq_false (by omega) | exact decide_eq_true (by omega)
    · -- ((mayB a (IntKind.u64.wrap (18446744073709551615 - (IntKind.u64.wrap y).tmod 4)) ==       mayB a (IntKind.u64.wrap (18446744073709551615 - (IntKind.u64.wrap y).tmod 4))) ==     false) =   false
      first | (apply Nat.ble_eq_true_of_le; omega) | (simp [Nat.blt_eq]; omega) | exact eq_no | exact (u64r _).1 | exact (u64r _).2 | omega | exact decide_eq_false (by omega) | exact decide_eq_true (by omega)
    · -- 0 ≤ a
      first | exact Nat.le_refl _ | omega | exact eq_no | exact (u64r _).1 | exact (u64r _).2 | omega | exact decide_eq_false (by omega) | exact decide_eq_true (by omega)
    · -- a < 18446744073709551616
      first | omega | exact eq_no | exact (u64r _).1 | exact (u64r _).2 | omega | exact decide_eq_false (by omega) | exact decide_eq_true (by omega)
    · -- 0 ≤ IntKind.u64.wrap (18446744073709551615 - (IntKind.u64.wrap y).tmod 4)
      first | exact Nat.le_refl _ | omega | exact eq_no | exact (u64r _).1 | exact (u64r _).2 | omega | exact decide_eq_false (by omega) | exact decide_eq_true (by omega)
    · -- IntKind.u64.wrap (18446744073709551615 - (IntKind.u64.wrap y).tmod 4) < 18446744073709551616
      first | omega | exact eq_no | exact (u64r _).1 | exact (u64r _).2 | omega | exact decide_eq_false (by omega) | exact decide_eq_true (by omega)
    · -- 0 ≤ a
      first | exact Nat.le_refl _ | omega | exact eq_no | exact (u64r _).1 | exact (u64r _).2 | omega | exact decide_eq_false (by omega) | exact decide_eq_true (by omega)
    · -- a < 18446744073709551616
      first | omega | exact eq_no | exact (u64r _).1 | exact (u64r _).2 | omega | exact decide_eq_false (by omega) | exact decide_eq_true (by omega)
    · -- 0 ≤ IntKind.u64.wrap (18446744073709551615 - (IntKind.u64.wrap y).tmod 4)
      first | exact Nat.le_refl _ | omega | exact eq_no | exact (u64r _).1 | exact (u64r _).2 | omega | exact decide_eq_false (by omega) | exact decide_eq_true (by omega)
    · -- IntKind.u64.wrap (18446744073709551615 - (IntKind.u64.wrap y).tmod 4) < 18446744073709551616
      first | omega | exact eq_no | exact (u64r _).1 | exact (u64r _).2 | omega | exact decide_eq_false (by omega) | exact decide_eq_true (by omega)
    · -- ((mayB (IntKind.u64.wrap (a - (IntKind.u64.wrap y).tmod 4)) a ==       mayB (IntKind.u64.wrap (a - (IntKind.u64.wrap y).tmod 4)) a) ==     false) =   false
      first | (apply Nat.ble_eq_true_of_le; omega) | (simp [Nat.blt_eq]; omega) | exact eq_no | exact (u64r _).1 | exact (u64r _).2 | omega | exact decide_eq_false (by omega) | exact decide_eq_true (by omega)
    · -- 0 ≤ IntKind.u64.wrap (a - (IntKind.u64.wrap y).tmod 4)
      first | exact Nat.le_refl _ | omega | exact eq_no | exact (u64r _).1 | exact (u64r _).2 | omega | exact decide_eq_false (by omega) | exact decide_eq_true (by omega)
    · -- IntKind.u64.wrap (a - (IntKind.u64.wrap y).tmod 4) < 18446744073709551616
      first | omega | exact eq_no | exact (u64r _).1 | exact (u64r _).2 | omega | exact decide_eq_false (by omega) | exact decide_eq_true (by omega)
    · -- 0 ≤ a
      first | exact Nat.le_refl _ | omega | exact eq_no | exact (u64r _).1 | exact (u64r _).2 | omega | exact decide_eq_false (by omega) | exact decide_eq_true (by omega)
    · -- a < 18446744073709551616
      first | omega | exact eq_no | exact (u64r _).1 | exact (u64r _).2 | omega | exact decide_eq_false (by omega) | exact decide_eq_true (by omega)
    · -- 0 ≤ IntKind.u64.wrap (a - (IntKind.u64.wrap y).tmod 4)
      first | exact Nat.le_refl _ | omega | exact eq_no | exact (u64r _).1 | exact (u64r _).2 | omega | exact decide_eq_false (by omega) | exact decide_eq_true (by omega)
    · -- IntKind.u64.wrap (a - (IntKind.u64.wrap y).tmod 4) < 18446744073709551616
      first | omega | exact eq_no | exact (u64r _).1 | exact (u64r _).2 | omega | exact decide_eq_false (by omega) | exact decide_eq_true (by omega)
    · -- 0 ≤ a
      first | exact Nat.le_refl _ | omega | exact eq_no | exact (u64r _).1 | exact (u64r _).2 | omega | exact decide_eq_false (by omega) | exact decide_eq_true (by omega)
    · -- a < 18446744073709551616
      first | omega | exact eq_no | exact (u64r _).1 | exact (u64r _).2 | omega | exact decide_eq_false (by omega) | exact decide_eq_true (by omega)
    · -- ((mayB a (IntKind.u64.wrap (a - (IntKind.u64.wrap y).tmod 4)) ==       mayB a (IntKind.u64.wrap (a - (IntKind.u64.wrap y).tmod 4))) ==     false) =   false
      first | (apply Nat.ble_eq_true_of_le; omega) | (simp [Nat.blt_eq]; omega) | exact eq_no | exact (u64r _).1 | exact (u64r _).2 | omega | exact decide_eq_false (by omega) | exact decide_eq_true (by omega)
    · -- 0 ≤ a
      first | exact Nat.le_refl _ | omega | exact eq_no | exact (u64r _).1 | exact (u64r _).2 | omega | exact decide_eq_false (by omega) | exact decide_eq_true (by omega)
    · -- a < 18446744073709551616
      first | omega | exact eq_no | exact (u64r _).1 | exact (u64r _).2 | omega | exact decide_eq_false (by omega) | exact decide_eq_true (by omega)
    · -- 0 ≤ IntKind.u64.wrap (a - (IntKind.u64.wrap y).tmod 4)
      first | exact Nat.le_refl _ | omega | exact eq_no | exact (u64r _).1 | exact (u64r _).2 | omega | exact decide_eq_false (by omega) | exact decide_eq_true (by omega)
    · -- IntKind.u64.wrap (a - (IntKind.u64.wrap y).tmod 4) < 18446744073709551616
      first | omega | exact eq_no | exact (u64r _).1 | exact (u64r _).2 | omega | exact decide_eq_false (by omega) | exact decide_eq_true (by omega)
    · -- 0 ≤ a
      first | exact Nat.le_refl _ | omega | exact eq_no | exact (u64r _).1 | exact (u64r _).2 | omega | exact decide_eq_false (by omega) | exact decide_eq_true (by omega)
    · -- a < 18446744073709551616
      first | omega | exact eq_no | exact (u64r _).1 | exact (u64r _).2 | omega | exact decide_eq_false (by omega) | exact decide_eq_true (by omega)
    · -- 0 ≤ IntKind.u64.wrap (a - (IntKind.u64.wrap y).tmod 4)
      first | exact Nat.le_refl _ | omega | exact eq_no | exact (u64r _).1 | exact (u64r _).2 | omega | exact decide_eq_false (by omega) | exact decide_eq_true (by omega)
    · -- IntKind.u64.wrap (a - (IntKind.u64.wrap y).tmod 4) < 18446744073709551616
      first | omega | exact eq_no | exact (u64r _).1 | exact (u64r _).2 | omega | exact decide_eq_false (by omega) | exact decide_eq_true (by omega)
    · -- ((mayB (IntKind.u64.wrap (a + (IntKind.u64.wrap y).tmod 4)) a ==       mayB (IntKind.u64.wrap (a + (IntKind.u64.wrap y).tmod 4)) a) ==     false) =   false
      first | (apply Nat.ble_eq_true_of_le; omega) | (simp [Nat.blt_eq]; omega) | exact eq_no | exact (u64r _).1 | exact (u64r _).2 | omega | exact decide_eq_false (by omega) | exact decide_eq_true (by omega)
    · -- 0 ≤ IntKind.u64.wrap (a + (IntKind.u64.wrap y).tmod 4)
      first | exact Nat.le_refl _ | omega | exact eq_no | exact (u64r _).1 | exact (u64r _).2 | omega | exact decide_eq_false (by omega) | exact decide_eq_true (by omega)
    · -- IntKind.u64.wrap (a + (IntKind.u64.wrap y).tmod 4) < 18446744073709551616
      first | omega | exact eq_no | exact (u64r _).1 | exact (u64r _).2 | omega | exact decide_eq_false (by omega) | exact decide_eq_true (by omega)
    · -- 0 ≤ a
      first | exact Nat.le_refl _ | omega | exact eq_no | exact (u64r _).1 | exact (u64r _).2 | omega | exact decide_eq_false (by omega) | exact decide_eq_true (by omega)
    · -- a < 18446744073709551616
      first | omega | exact eq_no | exact (u64r _).1 | exact (u64r _).2 | omega | exact decide_eq_false (by omega) | exact decide_eq_true (by omega)
    · -- 0 ≤ IntKind.u64.wrap (a + (IntKind.u64.wrap y).tmod 4)
      first | exact Nat.le_refl _ | omega | exact eq_no | exact (u64r _).1 | exact (u64r _).2 | omega | exact decide_eq_false (by omega) | exact decide_eq_true (by omega)
    · -- IntKind.u64.wrap (a + (IntKind.u64.wrap y).tmod 4) < 18446744073709551616
      first | omega | exact eq_no | exact (u64r _).1 | exact (u64r _).2 | omega | exact decide_eq_false (by omega) | exact decide_eq_true (by omega)
    · -- 0 ≤ a
      first | exact Nat.le_refl _ | omega | exact eq_no | exact (u64r _).1 | exact (u64r _).2 | omega | exact decide_eq_false (by omega) | exact decide_eq_true (by omega)
    · -- a < 18446744073709551616
      first | omega | exact eq_no | exact (u64r _).1 | exact (u64r _).2 | omega | exact decide_eq_false (by omega) | exact decide_eq_true (by omega)
    · -- ((mayB a (IntKind.u64.wrap (a + (IntKind.u64.wrap y).tmod 4)) ==       mayB a (IntKind.u64.wrap (a + (IntKind.u64.wrap y).tmod 4))) ==     false) =   false
      first | (apply Nat.ble_eq_true_of_le; omega) | (simp [Nat.blt_eq]; omega) | exact eq_no | exact (u64r _).1 | exact (u64r _).2 | omega | exact decide_eq_false (by omega) | exact decide_eq_true (by omega)
    · -- 0 ≤ a
      first | exact Nat.le_refl _ | omega | exact eq_no | exact (u64r _).1 | exact (u64r _).2 | omega | exact decide_eq_false (by omega) | exact decide_eq_true (by omega)
    · -- a < 18446744073709551616
      first | omega | exact eq_no | exact (u64r _).1 | exact (u64r _).2 | omega | exact decide_eq_false (by omega) | exact decide_eq_true (by omega)
    · -- 0 ≤ IntKind.u64.wrap (a + (IntKind.u64.wrap y).tmod 4)
      first | exact Nat.le_refl _ | omega | exact eq_no | exact (u64r _).1 | exact (u64r _).2 | omega | exact decide_eq_false (by omega) | exact decide_eq_true (by omega)
    · -- IntKind.u64.wrap (a + (IntKind.u64.wrap y).tmod 4) < 18446744073709551616
      first | omega | exact eq_no | exact (u64r _).1 | exact (u64r _).2 | omega | exact decide_eq_false (by omega) | exact decide_eq_true (by omega)
    · -- 0 ≤ a
      first | exact Nat.le_refl _ | omega | exact eq_no | exact (u64r _).1 | exact (u64r _).2 | omega | exact decide_eq_false (by omega) | exact decide_eq_true (by omega)
    · -- a < 18446744073709551616
      first | omega | exact eq_no | exact (u64r _).1 | exact (u64r _).2 | omega | exact decide_eq_false (by omega) | exact decide_eq_true (by omega)
    · -- 0 ≤ IntKind.u64.wrap (a + (IntKind.u64.wrap y).tmod 4)
      first | exact Nat.le_refl _ | omega | exact eq_no | exact (u64r _).1 | exact (u64r _).2 | omega | exact decide_eq_false (by omega) | exact decide_eq_true (by omega)
    · -- IntKind.u64.wrap (a + (IntKind.u64.wrap y).tmod 4) < 18446744073709551616
      first | omega | exact eq_no | exact (u64r _).1 | exact (u64r _).2 | omega | exact decide_eq_false (by omega) | exact decide_eq_true (by omega)
    · -- ((mayB b a == mayB b a) == false) = false
      first | (apply Nat.ble_eq_true_of_le; omega) | (simp [Nat.blt_eq]; omega) | exact eq_no | exact (u64r _).1 | exact (u64r _).2 | omega | exact decide_eq_false (by omega) | exact decide_eq_true (by omega)
    · -- 0 ≤ b
      first | exact Nat.le_refl _ | omega | exact eq_no | exact (u64r _).1 | exact (u64r _).2 | omega | exact decide_eq_false (by omega) | exact decide_eq_true (by omega)
    · -- b < 18446744073709551616
      first | omega | exact eq_no | exact (u64r _).1 | exact (u64r _).2 | omega | exact decide_eq_false (by omega) | exact decide_eq_true (by omega)
    · -- 0 ≤ a
      first | exact Nat.le_refl _ | omega | exact eq_no | exact (u64r _).1 | exact (u64r _).2 | omega | exact decide_eq_false (by omega) | exact decide_eq_true (by omega)
    · -- a < 18446744073709551616
      first | omega | exact eq_no | exact (u64r _).1 | exact (u64r _).2 | omega | exact decide_eq_false (by omega) | exact decide_eq_true (by omega)
    · -- 0 ≤ b
      first | exact Nat.le_refl _ | omega | exact eq_no | exact (u64r _).1 | exact (u64r _).2 | omega | exact decide_eq_false (by omega) | exact decide_eq_true (by omega)
    · -- b < 18446744073709551616
      first | omega | exact eq_no | exact (u64r _).1 | exact (u64r _).2 | omega | exact decide_eq_false (by omega) | exact decide_eq_true (by omega)
    · -- 0 ≤ a
      first | exact Nat.le_refl _ | omega | exact eq_no | exact (u64r _).1 | exact (u64r _).2 | omega | exact decide_eq_false (by omega) | exact decide_eq_true (by omega)
    · -- a < 18446744073709551616
      first | omega | exact eq_no | exact (u64r _).1 | exact (u64r _).2 | omega | exact decide_eq_false (by omega) | exact decide_eq_true (by omega)
    · -- ((mayB a b == mayB a b) == false) = false
      first | (apply Nat.ble_eq_true_of_le; omega) | (simp [Nat.blt_eq]; omega) | exact eq_no | exact (u64r _).1 | exact (u64r _).2 | omega | exact decide_eq_false (by omega) | exact decide_eq_true (by omega)
    · -- 0 ≤ a
      first | exact Nat.le_refl _ | omega | exact eq_no | exact (u64r _).1 | exact (u64r _).2 | omega | exact decide_eq_false (by omega) | exact decide_eq_true (by omega)
    · -- a < 18446744073709551616
      first | omega | exact eq_no | exact (u64r _).1 | exact (u64r _).2 | omega | exact decide_eq_false (by omega) | exact decide_eq_true (by omega)
    · -- 0 ≤ b
      first | exact Nat.le_refl _ | omega | exact eq_no | exact (u64r _).1 | exact (u64r _).2 | omega | exact decide_eq_false (by omega) | exact decide_eq_true (by omega)
    · -- b < 18446744073709551616
      first | omega | exact eq_no | exact (u64r _).1 | exact (u64r _).2 | omega | exact decide_eq_false (by omega) | exact decide_eq_true (by omega)
    · -- 0 ≤ a
      first | exact Nat.le_refl _ | omega | exact eq_no | exact (u64r _).1 | exact (u64r _).2 | omega | exact decide_eq_false (by omega) | exact decide_eq_true (by omega)
    · -- a < 18446744073709551616
      first | omega | exact eq_no | exact (u64r _).1 | exact (u64r _).2 | omega | exact decide_eq_false (by omega) | exact decide_eq_true (by omega)
    · -- 0 ≤ b
      first | exact Nat.le_refl _ | omega | exact eq_no | exact (u64r _).1 | exact (u64r _).2 | omega | exact decide_eq_false (by omega) | exact decide_eq_true (by omega)
    · -- b < 18446744073709551616
      first | omega | exact eq_no | exact (u64r _).1 | exact (u64r _).2 | omega | exact decide_eq_false (by omega) | exact decide_eq_true (by omega)
  | false =>
    have g1 := of_decide_eq_false h1
    try simp only [Int.ofNat_eq_natCast, ge_iff_le, gt_iff_lt, Int.not_lt, Int.not_le] at g1
    cases h2 : (decide (t > 15)) with
    | true =>
      have g2 := of_decide_eq_true h2
      try simp only [Int.ofNat_eq_natCast, ge_iff_le, gt_iff_lt, Int.not_lt, Int.not_le] at g2
      refine ⟨_, _, _, em_2 a b y t, .inl rfl, (ob_cons ?_ (ob_cons h1 (ob_cons ?_ (ob_cons h1 (ob_cons h2 (ob_cons h1 (ob_cons ?_ (ob_cons ?_ (ob_cons ?_ (ob_cons ?_ (ob_cons ?_ (ob_cons ?_ (ob_cons ?_ (ob_cons ?_ (ob_cons ?_ (ob_cons ?_ (ob_cons ?_ (ob_cons ?_ (ob_cons ?_ (ob_cons ?_ (ob_cons ?_ (ob_cons ?_ (ob_cons ?_ (ob_cons ?_ (ob_cons ?_ (ob_cons ?_ (ob_cons ?_ (ob_cons ?_ (ob_cons ?_ (ob_cons ?_ (ob_cons ?_ (ob_cons ?_ (ob_cons ?_ (ob_cons ?_ (ob_cons ?_ (ob_cons ?_ (ob_cons ?_ (ob_cons ?_ (ob_cons ?_ (ob_cons ?_ (ob_cons ?_ (ob_cons ?_ (ob_cons ?_ (ob_cons ?_ (ob_cons ?_ (ob_cons ?_ (ob_cons ?_ (ob_cons ?_ (ob_cons ?_ (ob_cons ?_ (ob_cons ?_ (ob_cons ?_ (ob_cons ?_ (ob_cons ?_ (ob_cons ?_ (ob_cons ?_ (ob_cons ?_ (ob_cons ?_ (ob_cons ?_ (ob_cons ?_ (ob_cons ?_ (ob_cons ?_ (ob_cons ?_ (ob_cons ?_ (ob_cons ?_ (ob_cons ?_ (ob_cons ?_ (ob_cons ?_ (ob_cons ?_ (ob_cons ?_ (ob_cons ?_ (ob_cons ?_ (ob_cons ?_ (ob_cons ?_ (ob_cons ?_ (ob_cons ?_ (ob_cons ?_ (ob_cons ?_ ob_nil))))))))))))))))))))))))))))))))))))))))))))))))))))))))))))))))))))))))))))))⟩
      · -- decide (t ≥ 16) = true
        first | (apply Nat.ble_eq_true_of_le; omega) | (simp [Nat.blt_eq]; omega) | exact eq_no | exact (u64r _).1 | exact (u64r _).2 | omega | exact decide_eq_false (by omega) | exact decide_eq_true (by omega)
      · -- decide (t ≥ 16) = true
        first | (apply Nat.ble_eq_true_of_le; omega) | (simp [Nat.blt_eq]; omega) | exact eq_no | exact (u64r _).1 | exact (u64r _).2 | omega | exact decide_eq_false (by omega) | exact decide_eq_true (by omega)
      · -- ((mayB (IntKind.u64.wrap (18446744073709551615 - (IntKind.u64.wrap y).tmod 4)) a ==       mayB (IntKind.u64.wrap (18446744073709551615 - (IntKind.u64.wrap y).tmod 4)) a) ==     false) =   false
        first | (apply Nat.ble_eq_true_of_le; omega) | (simp [Nat.blt_eq]; omega) | exact eq_no | exact (u64r _).1 | exact (u64r _).2 | omega | exact decide_eq_false (by omega) | exact decide_eq_true (by omega)
      · -- 0 ≤ IntKind.u64.wrap (18446744073709551615 - (IntKind.u64.wrap y).tmod 4)
        first | exact Nat.le_refl _ | omega | exact eq_no | exact (u64r _).1 | exact (u64r _).2 | omega | exact decide_eq_false (by omega) | exact decide_eq_true (by omega)
      · -- IntKind.u64.wrap (18446744073709551615 - (IntKind.u64.wrap y).tmod 4) < 18446744073709551616
        first | omega | exact eq_no | exact (u64r _).1 | exact (u64r _).2 | omega | exact decide_eq_false (by omega) | exact decide_eq_true (by omega)
      · -- 0 ≤ a
        first | exact Nat.le_refl _ | omega | exact eq_no | exact (u64r _).1 | exact (u64r _).2 | omega | exact decide_eq_false (by omega) | exact decide_eq_true (by omega)
      · -- a < 18446744073709551616
        first | omega | exact eq_no | exact (u64r _).1 | exact (u64r _).2 | omega | exact decide_eq_false (by omega) | exact decide_eq_true (by omega)
      · -- 0 ≤ IntKind.u64.wrap (18446744073709551615 - (IntKind.u64.wrap y).tmod 4)
        first | exact Nat.le_refl _ | omega | exact eq_no | exact (u64r _).1 | exact (u64r _).2 | omega | exact decide_eq_false (by omega) | exact decide_eq_true (by omega)
      · -- IntKind.u64.wrap (18446744073709551615 - (IntKind.u64.wrap y).tmod 4) < 18446744073709551616
        first | omega | exact eq_no | exact (u64r _).1 | exact (u64r _).2 | omega | exact decide_eq_false (by omega) | exact decide_eq_true (by omega)
      · -- 0 ≤ a
        first | exact Nat.le_refl _ | omega | exact eq_no | exact (u64r _).1 | exact (u64r _).2 | omega | exact decide_eq_false (by omega) | exact decide_eq_true (by omega)
      · -- a < 18446744073709551616
        first | omega | exact eq_no | exact (u64r _).1 | exact (u64r _).2 | omega | exact decide_eq_false (by omega) | exact decide_eq_true (by omega)
      · -- ((mayB a (IntKind.u64.wrap (18446744073709551615 - (IntKind.u64.wrap y).tmod 4)) ==       mayB a (IntKind.u64.wrap (18446744073709551615 - (IntKind.u64.wrap y).tmod 4))) ==     false) =   false
        first | (apply Nat.ble_eq_true_of_le; omega) | (simp [Nat.blt_eq]; omega) | exact eq_no | exact (u64r _).1 | exact (u64r _).2 | omega | exact decide_eq_false (by omega) | exact decide_eq_true (by omega)
      · -- 0 ≤ a
        first | exact Nat.le_refl _ | omega | exact eq_no | exact (u64r _).1 | exact (u64r _).2 | omega | exact decide_eq_false (by omega) | exact decide_eq_true (by omega)
      · -- a < 18446744073709551616
        first | omega | exact eq_no | exact (u64r _).1 | exact (u64r _).2 | omega | exact decide_eq_false (by omega) | exact decide_eq_true (by omega)
      · -- 0 ≤ IntKind.u64.wrap (18446744073709551615 - (IntKind.u64.wrap y).tmod 4)
        first | exact Nat.le_refl _ | omega | exact eq_no | exact (u64r _).1 | exact (u64r _).2 | omega | exact decide_eq_false (by omega) | exact decide_eq_true (by omega)
      · -- IntKind.u64.wrap (18446744073709551615 - (IntKind.u64.wrap y).tmod 4) < 18446744073709551616
        first | omega | exact eq_no | exact (u64r _).1 | exact (u64r _).2 | omega | exact decide_eq_false (by omega) | exact decide_eq_true (by omega)
      · -- 0 ≤ a
        first | exact Nat.le_refl _ | omega | exact eq_no | exact (u64r _).1 | exact (u64r _).2 | omega | exact decide_eq_false (by omega) | exact decide_eq_true (by omega)
      · -- a < 18446744073709551616
        first | omega | exact eq_no | exact (u64r _).1 | exact (u64r _).2 | omega | exact decide_eq_false (by omega) | exact decide_eq_true (by omega)
      · -- 0 ≤ IntKind.u64.wrap (18446744073709551615 - (IntKind.u64.wrap y).tmod 4)
        first | exact Nat.le_refl _ | omega | exact eq_no | exact (u64r _).1 | exact (u64r _).2 | omega | exact decide_eq_false (by omega) | exact decide_eq_true (by omega)
      · -- IntKind.u64.wrap (18446744073709551615 - (IntKind.u64.wrap y).tmod 4) < 18446744073709551616
        first | omega | exact eq_no | exact (u64r _).1 | exact (u64r _).2 | omega | exact decide_eq_false (by omega) | exact decide_eq_true (by omega)
      · -- ((mayB (IntKind.u64.wrap (a - (IntKind.u64.wrap y).tmod 4)) a ==       mayB (IntKind.u64.wrap (a - (IntKind.u64.wrap y).tmod 4)) a) ==     false) =   false
        first | (apply Nat.ble_eq_true_of_le; omega) | (simp [Nat.blt_eq]; omega) | exact eq_no | exact (u64r _).1 | exact (u64r _).2 | omega | exact decide_eq_false (by omega) | exact decide_eq_true (by omega)
      · -- 0 ≤ IntKind.u64.wrap (a - (IntKind.u64.wrap y).tmod 4)
        first | exact Nat.le_refl _ | omega | exact eq_no | exact (u64r _).1 | exact (u64r _).2 | omega | exact decide_eq_false (by omega) | exact decide_eq_true (by omega)
      · -- IntKind.u64.wrap (a - (IntKind.u64.wrap y).tmod 4) < 18446744073709551616
        first | omega | exact eq_no | exact (u64r _).1 | exact (u64r _).2 | omega | exact decide_eq_false (by omega) | exact decide_eq_true (by omega)
      · -- 0 ≤ a
        first | exact Nat.le_refl _ | omega | exact eq_no | exact (u64r _).1 | exact (u64r _).2 | omega | exact decide_eq_false (by omega) | exact decide_eq_true (by omega)
      · -- a < 18446744073709551616
        first | omega | exact eq_no | exact (u64r _).1 | exact (u64r _).2 | omega | exact decide_eq_false (by omega) | exact decide_eq_true (by omega)
      · -- 0 ≤ IntKind.u64.wrap (a - (IntKind.u64.wrap y).tmod 4)
        first | exact Nat.le_refl _ | omega | exact eq_no | exact (u64r _).1 | exact (u64r _).2 | omega | exact decide_eq_false (by omega) | exact decide_eq_true (by omega)
      · -- IntKind.u64.wrap (a - (IntKind.u64.wrap y).tmod 4) < 18446744073709551616
        first | omega | exact eq_no | exact (u64r _).1 | exact (u64r _).2 | omega | exact decide_eq_false (by omega) | exact decide_eq_true (by omega)
      · -- 0 ≤ a
        first | exact Nat.le_refl _ | omega | exact eq_no | exact (u64r _).1 | exact (u64r _).2 | omega | exact decide_eq_false (by omega) | exact decide_eq_true (by omega)
      · -- a < 18446744073709551616
        first | omega | exact eq_no | exact (u64r _).1 | exact (u64r _).2 | omega | exact decide_eq_false (by omega) | exact decide_eq_true (by omega)
      · -- ((mayB a (IntKind.u64.wrap (a - (IntKind.u64.wrap y).tmod 4)) ==       mayB a (IntKind.u64.wrap (a - (IntKind.u64.wrap y).tmod 4))) ==     false) =   false
        first | (apply Nat.ble_eq_true_of_le; omega) | (simp [Nat.blt_eq]; omega) | exact eq_no | exact (u64r _).1 | exact (u64r _).2 | omega | exact decide_eq_false (by omega) | exact decide_eq_true (by omega)
      · -- 0 ≤ a
        first | exact Nat.le_refl _ | omega | exact eq_no | exact (u64r _).1 | exact (u64r _).2 | omega | exact decide_eq_false (by omega) | exact decide_eq_true (by omega)
      · -- a < 18446744073709551616
        first | omega | exact eq_no | exact (u64r _).1 | exact (u64r _).2 | omega | exact decide_eq_false (by omega) | exact decide_eq_true (by omega)
      · -- 0 ≤ IntKind.u64.wrap (a - (IntKind.u64.wrap y).tmod 4)
        first | exact Nat.le_refl _ | omega | exact eq_no | exact (u64r _).1 | exact (u64r _).2 | omega | exact decide_eq_false (by omega) | exact decide_eq_true (by omega)
      · -- IntKind.u64.wrap (a - (IntKind.u64.wrap y).tmod 4) < 18446744073709551616
        first | omega | exact eq_no | exact (u64r _).1 | exact (u64r _).2 | omega | exact decide_eq_false (by omega) | exact decide_eq_true (by omega)
      · -- 0 ≤ a
        first | exact Nat.le_refl _ | omega | exact eq_no | exact (u64r _).1 | exact (u64r _).2 | omega | exact decide_eq_false (by omega) | exact decide_eq_true (by omega)
      · -- a < 18446744073709551616
        first | omega | exact eq_no | exact (u64r _).1 | exact (u64r _).2 | omega | exact decide_eq_false (by omega) | exact decide_eq_true (by omega)
      · -- 0 ≤ IntKind.u64.wrap (a - (IntKind.u64.wrap y).tmod 4)
        first | exact Nat.le_refl _ | omega | exact eq_no | exact (u64r _).1 | exact (u64r _).2 | omega | exact decide_eq_false (by omega) | exact decide_eq_true (by omega)
      · -- IntKind.u64.wrap (a - (IntKind.u64.wrap y).tmod 4) < 18446744073709551616
        first | omega | exact eq_no | exact (u64r _).1 | exact (u64r _).2 | omega | exact decide_eq_false (by omega) | exact decide_eq_true (by omega)
      · -- ((mayB (IntKind.u64.wrap (a + (IntKind.u64.wrap y).tmod 4)) a ==       mayB (IntKind.u64.wrap (a + (IntKind.u64.wrap y).tmod 4)) a) ==     false) =   false
        first | (apply Nat.ble_eq_true_of_le; omega) | (simp [Nat.blt_eq]; omega) | exact eq_no | exact (u64r _).1 | exact (u64r _).2 | omega | exact decide_eq_false (by omega) | exact decide_eq_true (by omega)
      · -- 0 ≤ IntKind.u64.wrap (a + (IntKind.u64.wrap y).tmod 4)
        first | exact Nat.le_refl _ | omega | exact eq_no | exact (u64r _).1 | exact (u64r _).2 | omega | exact decide_eq_false (by omega) | exact decide_eq_true (by omega)
      · -- IntKind.u64.wrap (a + (IntKind.u64.wrap y).tmod 4) < 18446744073709551616
        first | omega | exact eq_no | exact (u64r _).1 | exact (u64r _).2 | omega | exact decide_eq_false (by omega) | exact decide_eq_true (by omega)
      · -- 0 ≤ a
        first | exact Nat.le_refl _ | omega | exact eq_no | exact (u64r _).1 | exact (u64r _).2 | omega | exact decide_eq_false (by omega) | exact decide_eq_true (by omega)
      · -- a < 18446744073709551616
        first | omega | exact eq_no | exact (u64r _).1 | exact (u64r _).2 | omega | exact decide_eq_false (by omega) | exact decide_eq_true (by omega)
      · -- 0 ≤ IntKind.u64.wrap (a + (IntKind.u64.wrap y).tmod 4)
        first | exact Nat.le_refl _ | omega | exact eq_no | exact (u64r _).1 | exact (u64r _).2 | omega | exact decide_eq_false (by omega) | exact decide_eq_true (by omega)
      · -- IntKind.u64.wrap (a + (IntKind.u64.wrap y).tmod 4) < 18446744073709551616
        first | omega | exact eq_no | exact (u64r _).1 | exact (u64r _).2 | omega | exact decide_eq_false (by omega) | exact decide_eq_true (by omega)
      · -- 0 ≤ a
        first | exact Nat.le_refl _ | omega | exact eq_no | exact (u64r _).1 | exact (u64r _).2 | omega | exact decide_eq_false (by omega) | exact decide_eq_true (by omega)
      · -- a < 18446744073709551616
        first | omega | exact eq_no | exact (u64r _).1 | exact (u64r _).2 | omega | exact decide_eq_false (by omega) | exact decide_eq_true (by omega)
      · -- ((mayB a (IntKind.u64.wrap (a + (IntKind.u64.wrap y).tmod 4)) ==       mayB a (IntKind.u64.wrap (a + (IntKind.u64.wrap y).tmod 4))) ==     false) =   false
        first | (apply Nat.ble_eq_true_of_le; omega) | (simp [Nat.blt_eq]; omega) | exact eq_no | exact (u64r _).1 | exact (u64r _).2 | omega | exact decide_eq_false (by omega) | exact decide_eq_true (by omega)
      · -- 0 ≤ a
        first | exact Nat.le_refl _ | omega | exact eq_no | exact (u64r _).1 | exact (u64r _).2 | omega | exact decide_eq_false (by omega) | exact decide_eq_true (by omega)
      · -- a < 18446744073709551616
        first | omega | exact eq_no | exact (u64r _).1 | exact (u64r _).2 | omega | exact decide_eq_false (by omega) | exact decide_eq_true (by omega)
      · -- 0 ≤ IntKind.u64.wrap (a + (IntKind.u64.wrap y).tmod 4)
        first | exact Nat.le_refl _ | omega | exact eq_no | exact (u64r _).1 | exact (u64r _).2 | omega | exact decide_eq_false (by omega) | exact decide_eq_true (by omega)
      · -- IntKind.u64.wrap (a + (IntKind.u64.wrap y).tmod 4) < 18446744073709551616
        first | omega | exact eq_no | exact (u64r _).1 | exact (u64r _).2 | omega | exact decide_eq_false (by omega) | exact decide_eq_true (by omega)
      · -- 0 ≤ a
        first | exact Nat.le_refl _ | omega | exact eq_no | exact (u64r _).1 | exact (u64r _).2 | omega | exact decide_eq_false (by omega) | exact decide_eq_true (by omega)
      · -- a < 18446744073709551616
        first | omega | exact eq_no | exact (u64r _).1 | exact (u64r _).2 | omega | exact decide_eq_false (by omega) | exact decide_eq_true (by omega)
      · -- 0 ≤ IntKind.u64.wrap (a + (IntKind.u64.wrap y).tmod 4)
        first | exact Nat.le_refl _ | omega | exact eq_no | exact (u64r _).1 | exact (u64r _).2 | omega | exact decide_eq_false (by omega) | exact decide_eq_true (by omega)
      · -- IntKind.u64.wrap (a + (IntKind.u64.wrap y).tmod 4) < 18446744073709551616
        first | omega | exact eq_no | exact (u64r _).1 | exact (u64r _).2 | omega | exact decide_eq_false (by omega) | exact decide_eq_true (by omega)
      · -- ((mayB b a == mayB b a) == false) = false
        first | (apply Nat.ble_eq_true_of_le; omega) | (simp [Nat.blt_eq]; omega) | exact eq_no | exact (u64r _).1 | exact (u64r _).2 | omega | exact decide_eq_false (by omega) | exact decide_eq_true (by omega)
      · -- 0 ≤ b
        first | exact Nat.le_refl _ | omega | exact eq_no | exact (u64r _).1 | exact (u64r _).2 | omega | exact decide_eq_false (by omega) | exact decide_eq_true (by omega)
      · -- b < 18446744073709551616
        first | omega | exact eq_no | exact (u64r _).1 | exact (u64r _).2 | omega | exact decide_eq_false (by omega) | exact decide_eq_true (by omega)
      · -- 0 ≤ a
        first | exact Nat.le_refl _ | omega | exact eq_no | exact (u64r _).1 | exact (u64r _).2 | omega | exact decide_eq_false (by omega) | exact decide_eq_true (by omega)
      · -- a < 18446744073709551616
        first | omega | exact eq_no | exact (u64r _).1 | exact (u64r _).2 | omega | exact decide_eq_false (by omega) | exact decide_eq_true (by omega)
      · -- 0 ≤ b
        first | exact Nat.le_refl _ | omega | exact eq_no | exact (u64r _).1 | exact (u64r _).2 | omega | exact decide_eq_false (by omega) | exact decide_eq_true (by omega)
      · -- b < 18446744073709551616
        first | omega | exact eq_no | exact (u64r _).1 | exact (u64r _).2 | omega | exact decide_eq_false (by omega) | exact decide_eq_true (by omega)
      · -- 0 ≤ a
        first | exact Nat.le_refl _ | omega | exact eq_no | exact (u64r _).1 | exact (u64r _).2 | omega | exact decide_eq_false (by omega) | exact decide_eq_true (by omega)
      · -- a < 18446744073709551616
        first | omega | exact eq_no | exact (u64r _).1 | exact (u64r _).2 | omega | exact decide_eq_false (by omega) | exact decide_eq_true (by omega)
      · -- ((mayB a b == mayB a b) == false) = false
        first | (apply Nat.ble_eq_true_of_le; omega) | (simp [Nat.blt_eq]; omega) | exact eq_no | exact (u64r _).1 | exact (u64r _).2 | omega | exact decide_eq_false (by omega) | exact decide_eq_true (by omega)
      · -- 0 ≤ a
        first | exact Nat.le_refl _ | omega | exact eq_no | exact (u64r _).1 | exact (u64r _).2 | omega | exact decide_eq_false (by omega) | exact decide_eq_true (by omega)
      · -- a < 18446744073709551616
        first | omega | exact eq_no | exact (u64r _).1 | exact (u64r _).2 | omega | exact decide_eq_false (by omega) | exact decide_eq_true (by omega)
      · -- 0 ≤ b
        first | exact Nat.le_refl _ | omega | exact eq_no | exact (u64r _).1 | exact (u64r _).2 | omega | exact decide_eq_false (by omega) | exact decide_eq_true (by omega)
      · -- b < 18446744073709551616
        first | omega | exact eq_no | exact (u64r _).1 | exact (u64r _).2 | omega | exact decide_eq_false (by omega) | exact decide_eq_true (by omega)
      · -- 0 ≤ a
        first | exact Nat.le_refl _ | omega | exact eq_no | exact (u64r _).1 | exact (u64r _).2 | omega | exact decide_eq_false (by omega) | exact decide_eq_true (by omega)
      · -- a < 18446744073709551616
        first | omega | exact eq_no | exact (u64r _).1 | exact (u64r _).2 | omega | exact decide_eq_false (by omega) | exact decide_eq_true (by omega)
      · -- 0 ≤ b
        first | exact Nat.le_refl _ | omega | exact eq_no | exact (u64r _).1 | exact (u64r _).2 | omega | exact decide_eq_false (by omega) | exact decide_eq_true (by omega)
      · -- b < 18446744073709551616
        first | omega | exact eq_no | exact (u64r _).1 | exact (u64r _).2 | omega | exact decide_eq_false (by omega) | exact decide_eq_true (by omega)
    | false =>
      have g2 := of_decide_eq_false h2
      try simp only [Int.ofNat_eq_natCast, ge_iff_le, gt_iff_lt, Int.not_lt, Int.not_le] at g2
      refine ⟨_, _, _, em_3 a b y t, .inl rfl, (ob_cons h2 (ob_cons h1 (ob_cons ?_ (ob_cons ?_ (ob_cons ?_ (ob_cons ?_ (ob_cons ?_ (ob_cons ?_ (ob_cons ?_ (ob_cons ?_ (ob_cons ?_ (ob_cons ?_ (ob_cons ?_ (ob_cons ?_ (ob_cons ?_ (ob_cons ?_ (ob_cons ?_ (ob_cons ?_ (ob_cons ?_ (ob_cons ?_ (ob_cons ?_ (ob_cons ?_ (ob_cons ?_ (ob_cons ?_ (ob_cons ?_ (ob_cons ?_ (ob_cons ?_ (ob_cons ?_ (ob_cons ?_ (ob_cons ?_ (ob_cons ?_ (ob_cons ?_ (ob_cons ?_ (ob_cons ?_ (ob_cons ?_ (ob_cons ?_ (ob_cons ?_ (ob_cons ?_ (ob_cons ?_ (ob_cons ?_ (ob_cons ?_ (ob_cons ?_ (ob_cons ?_ (ob_cons ?_ (ob_cons ?_ (ob_cons ?_ (ob_cons ?_ (ob_cons ?_ (ob_cons ?_ (ob_cons ?_ (ob_cons ?_ (ob_cons ?_ (ob_cons ?_ (ob_cons ?_ (ob_cons ?_ (ob_cons ?_ (ob_cons ?_ (ob_cons ?_ (ob_cons ?_ (ob_cons ?_ (ob_cons ?_ (ob_cons ?_ (ob_cons ?_ (ob_cons ?_ (ob_cons ?_ (ob_cons ?_ (ob_cons ?_ (ob_cons ?_ (ob_cons ?_ (ob_cons ?_ (ob_cons ?_ (ob_cons ?_ (ob_cons ?_ (ob_cons ?_ ob_nil))))))))))))))))))))))))))))))))))))))))))))))))))))))))))))))))))))))))))⟩
      · -- ((mayB (IntKind.u64.wrap (18446744073709551615 - (IntKind.u64.wrap y).tmod 4)) a ==       mayB (IntKind.u64.wrap (18446744073709551615 - (IntKind.u64.wrap y).tmod 4)) a) ==     false) =   false
        first | (apply Nat.ble_eq_true_of_le; omega) | (simp [Nat.blt_eq]; omega) | exact eq_no | exact (u64r _).1 | exact (u64r _).2 | omega | exact decide_eq_false (by omega) | exact decide_eq_true (by omega)
      · -- 0 ≤ IntKind.u64.wrap (18446744073709551615 - (IntKind.u64.wrap y).tmod 4)
        first | exact Nat.le_refl _ | omega | exact eq_no | exact (u64r _).1 | exact (u64r _).2 | omega | exact decide_eq_false (by omega) | exact decide_eq_true (by omega)
      · -- IntKind.u64.wrap (18446744073709551615 - (IntKind.u64.wrap y).tmod 4) < 18446744073709551616
        first | omega | exact eq_no | exact (u64r _).1 | exact (u64r _).2 | omega | exact decide_eq_false (by omega) | exact decide_eq_true (by omega)
      · -- 0 ≤ a
        first | exact Nat.le_refl _ | omega | exact eq_no | exact (u64r _).1 | exact (u64r _).2 | omega | exact decide_eq_false (by omega) | exact decide_eq_true (by omega)
      · -- a < 18446744073709551616
        first | omega | exact eq_no | exact (u64r _).1 | exact (u64r _).2 | omega | exact decide_eq_false (by omega) | exact decide_eq_true (by omega)
      · -- 0 ≤ IntKind.u64.wrap (18446744073709551615 - (IntKind.u64.wrap y).tmod 4)
        first | exact Nat.le_refl _ | omega | exact eq_no | exact (u64r _).1 | exact (u64r _).2 | omega | exact decide_eq_false (by omega) | exact decide_eq_true (by omega)
      · -- IntKind.u64.wrap (18446744073709551615 - (IntKind.u64.wrap y).tmod 4) < 18446744073709551616
        first | omega | exact eq_no | exact (u64r _).1 | exact (u64r _).2 | omega | exact decide_eq_false (by omega) | exact decide_eq_true (by omega)
      · -- 0 ≤ a
        first | exact Nat.le_refl _ | omega | exact eq_no | exact (u64r _).1 | exact (u64r _).2 | omega | exact decide_eq_false (by omega) | exact decide_eq_true (by omega)
      · -- a < 18446744073709551616
        first | omega | exact eq_no | exact (u64r _).1 | exact (u64r _).2 | omega | exact decide_eq_false (by omega) | exact decide_eq_true (by omega)
      · -- ((mayB a (IntKind.u64.wrap (18446744073709551615 - (IntKind.u64.wrap y).tmod 4)) ==       mayB a (IntKind.u64.wrap (18446744073709551615 - (IntKind.u64.wrap y).tmod 4))) ==     false) =   false
        first | (apply Nat.ble_eq_true_of_le; omega) | (simp [Nat.blt_eq]; omega) | exact eq_no | exact (u64r _).1 | exact (u64r _).2 | omega | exact decide_eq_false (by omega) | exact decide_eq_true (by omega)
      · -- 0 ≤ a
        first | exact Nat.le_refl _ | omega | exact eq_no | exact (u64r _).1 | exact (u64r _).2 | omega | exact decide_eq_false (by omega) | exact decide_eq_true (by omega)
      · -- a < 18446744073709551616
        first | omega | exact eq_no | exact (u64r _).1 | exact (u64r _).2 | omega | exact decide_eq_false (by omega) | exact decide_eq_true (by omega)
      · -- 0 ≤ IntKind.u64.wrap (18446744073709551615 - (IntKind.u64.wrap y).tmod 4)
        first | exact Nat.le_refl _ | omega | exact eq_no | exact (u64r _).1 | exact (u64r _).2 | omega | exact decide_eq_false (by omega) | exact decide_eq_true (by omega)
      · -- IntKind.u64.wrap (18446744073709551615 - (IntKind.u64.wrap y).tmod 4) < 18446744073709551616
        first | omega | exact eq_no | exact (u64r _).1 | exact (u64r _).2 | omega | exact decide_eq_false (by omega) | exact decide_eq_true (by omega)
      · -- 0 ≤ a
        first | exact Nat.le_refl _ | omega | exact eq_no | exact (u64r _).1 | exact (u64r _).2 | omega | exact decide_eq_false (by omega) | exact decide_eq_true (by omega)
      · -- a < 18446744073709551616
        first | omega | exact eq_no | exact (u64r _).1 | exact (u64r _).2 | omega | exact decide_eq_false (by omega) | exact decide_eq_true (by omega)
      · -- 0 ≤ IntKind.u64.wrap (18446744073709551615 - (IntKind.u64.wrap y).tmod 4)
        first | exact Nat.le_refl _ | omega | exact eq_no | exact (u64r _).1 | exact (u64r _).2 | omega | exact decide_eq_false (by omega) | exact decide_eq_true (by omega)
      · -- IntKind.u64.wrap (18446744073709551615 - (IntKind.u64.wrap y).tmod 4) < 18446744073709551616
        first | omega | exact eq_no | exact (u64r _).1 | exact (u64r _).2 | omega | exact decide_eq_false (by omega) | exact decide_eq_true (by omega)
      · -- ((mayB (IntKind.u64.wrap (a - (IntKind.u64.wrap y).tmod 4)) a ==       mayB (IntKind.u64.wrap (a - (IntKind.u64.wrap y).tmod 4)) a) ==     false) =   false
        first | (apply Nat.ble_eq_true_of_le; omega) | (simp [Nat.blt_eq]; omega) | exact eq_no | exact (u64r _).1 | exact (u64r _).2 | omega | exact decide_eq_false (by omega) | exact decide_eq_true (by omega)
      · -- 0 ≤ IntKind.u64.wrap (a - (IntKind.u64.wrap y).tmod 4)
        first | exact Nat.le_refl _ | omega | exact eq_no | exact (u64r _).1 | exact (u64r _).2 | omega | exact decide_eq_false (by omega) | exact decide_eq_true (by omega)
      · -- IntKind.u64.wrap (a - (IntKind.u64.wrap y).tmod 4) < 18446744073709551616
        first | omega | exact eq_no | exact (u64r _).1 | exact (u64r _).2 | omega | exact decide_eq_false (by omega) | exact decide_eq_true (by omega)
      · -- 0 ≤ a
        first | exact Nat.le_refl _ | omega | exact eq_no | exact (u64r _).1 | exact (u64r _).2 | omega | exact decide_eq_false (by omega) | exact decide_eq_true (by omega)
      · -- a < 18446744073709551616
        first | omega | exact eq_no | exact (u64r _).1 | exact (u64r _).2 | omega | exact decide_eq_false (by omega) | exact decide_eq_true (by omega)
      · -- 0 ≤ IntKind.u64.wrap (a - (IntKind.u64.wrap y).tmod 4)
        first | exact Nat.le_refl _ | omega | exact eq_no | exact (u64r _).1 | exact (u64r _).2 | omega | exact decide_eq_false (by omega) | exact decide_eq_true (by omega)
      · -- IntKind.u64.wrap (a - (IntKind.u64.wrap y).tmod 4) < 18446744073709551616
        first | omega | exact eq_no | exact (u64r _).1 | exact (u64r _).2 | omega | exact decide_eq_false (by omega) | exact decide_eq_true (by omega)
      · -- 0 ≤ a
        first | exact Nat.le_refl _ | omega | exact eq_no | exact (u64r _).1 | exact (u64r _).2 | omega | exact decide_eq_false (by omega) | exact decide_eq_true (by omega)
      · -- a < 18446744073709551616
        first | omega | exact eq_no | exact (u64r _).1 | exact (u64r _).2 | omega | exact decide_eq_false (by omega) | exact decide_eq_true (by omega)
      · -- ((mayB a (IntKind.u64.wrap (a - (IntKind.u64.wrap y).tmod 4)) ==       mayB a (IntKind.u64.wrap (a - (IntKind.u64.wrap y).tmod 4))) ==     false) =   false
        first | (apply Nat.ble_eq_true_of_le; omega) | (simp [Nat.blt_eq]; omega) | exact eq_no | exact (u64r _).1 | exact (u64r _).2 | omega | exact decide_eq_false (by omega) | exact decide_eq_true (by omega)
      · -- 0 ≤ a
        first | exact Nat.le_refl _ | omega | exact eq_no | exact (u64r _).1 | exact (u64r _).2 | omega | exact decide_eq_false (by omega) | exact decide_eq_true (by omega)
      · -- a < 18446744073709551616
        first | omega | exact eq_no | exact (u64r _).1 | exact (u64r _).2 | omega | exact decide_eq_false (by omega) | exact decide_eq_true (by omega)
      · -- 0 ≤ IntKind.u64.wrap (a - (IntKind.u64.wrap y).tmod 4)
        first | exact Nat.le_refl _ | omega | exact eq_no | exact (u64r _).1 | exact (u64r _).2 | omega | exact decide_eq_false (by omega) | exact decide_eq_true (by omega)
      · -- IntKind.u64.wrap (a - (IntKind.u64.wrap y).tmod 4) < 18446744073709551616
        first | omega | exact eq_no | exact (u64r _).1 | exact (u64r _).2 | omega | exact decide_eq_false (by omega) | exact decide_eq_true (by omega)
      · -- 0 ≤ a
        first | exact Nat.le_refl _ | omega | exact eq_no | exact (u64r _).1 | exact (u64r _).2 | omega | exact decide_eq_false (by omega) | exact decide_eq_true (by omega)
      · -- a < 18446744073709551616
        first | omega | exact eq_no | exact (u64r _).1 | exact (u64r _).2 | omega | exact decide_eq_false (by omega) | exact decide_eq_true (by omega)
      · -- 0 ≤ IntKind.u64.wrap (a - (IntKind.u64.wrap y).tmod 4)
        first | exact Nat.le_refl _ | omega | exact eq_no | exact (u64r _).1 | exact (u64r _).2 | omega | exact decide_eq_false (by omega) | exact decide_eq_true (by omega)
      · -- IntKind.u64.wrap (a - (IntKind.u64.wrap y).tmod 4) < 18446744073709551616
        first | omega | exact eq_no | exact (u64r _).1 | exact (u64r _).2 | omega | exact decide_eq_false (by omega) | exact decide_eq_true (by omega)
      · -- ((mayB (IntKind.u64.wrap (a + (IntKind.u64.wrap y).tmod 4)) a ==       mayB (IntKind.u64.wrap (a + (IntKind.u64.wrap y).tmod 4)) a) ==     false) =   false
        first | (apply Nat.ble_eq_true_of_le; omega) | (simp [Nat.blt_eq]; omega) | exact eq_no | exact (u64r _).1 | exact (u64r _).2 | omega | exact decide_eq_false (by omega) | exact decide_eq_true (by omega)
      · -- 0 ≤ IntKind.u64.wrap (a + (IntKind.u64.wrap y).tmod 4)
        first | exact Nat.le_refl _ | omega | exact eq_no | exact (u64r _).1 | exact (u64r _).2 | omega | exact decide_eq_false (by omega) | exact decide_eq_true (by omega)
      · -- IntKind.u64.wrap (a + (IntKind.u64.wrap y).tmod 4) < 18446744073709551616
        first | omega | exact eq_no | exact (u64r _).1 | exact (u64r _).2 | omega | exact decide_eq_false (by omega) | exact decide_eq_true (by omega)
      · -- 0 ≤ a
        first | exact Nat.le_refl _ | omega | exact eq_no | exact (u64r _).1 | exact (u64r _).2 | omega | exact decide_eq_false (by omega) | exact decide_eq_true (by omega)
      · -- a < 18446744073709551616
        first | omega | exact eq_no | exact (u64r _).1 | exact (u64r _).2 | omega | exact decide_eq_false (by omega) | exact decide_eq_true (by omega)
      · -- 0 ≤ IntKind.u64.wrap (a + (IntKind.u64.wrap y).tmod 4)
        first | exact Nat.le_refl _ | omega | exact eq_no | exact (u64r _).1 | exact (u64r _).2 | omega | exact decide_eq_false (by omega) | exact decide_eq_true (by omega)
      · -- IntKind.u64.wrap (a + (IntKind.u64.wrap y).tmod 4) < 18446744073709551616
        first | omega | exact eq_no | exact (u64r _).1 | exact (u64r _).2 | omega | exact decide_eq_false (by omega) | exact decide_eq_true (by omega)
      · -- 0 ≤ a
        first | exact Nat.le_refl _ | omega | exact eq_no | exact (u64r _).1 | exact (u64r _).2 | omega | exact decide_eq_false (by omega) | exact decide_eq_true (by omega)
      · -- a < 18446744073709551616
        first | omega | exact eq_no | exact (u64r _).1 | exact (u64r _).2 | omega | exact decide_eq_false (by omega) | exact decide_eq_true (by omega)
      · -- ((mayB a (IntKind.u64.wrap (a + (IntKind.u64.wrap y).tmod 4)) ==       mayB a (IntKind.u64.wrap (a + (IntKind.u64.wrap y).tmod 4))) ==     false) =   false
        first | (apply Nat.ble_eq_true_of_le; omega) | (simp [Nat.blt_eq]; omega) | exact eq_no | exact (u64r _).1 | exact (u64r _).2 | omega | exact decide_eq_false (by omega) | exact decide_eq_true (by omega)
      · -- 0 ≤ a
        first | exact Nat.le_refl _ | omega | exact eq_no | exact (u64r _).1 | exact (u64r _).2 | omega | exact decide_eq_false (by omega) | exact decide_eq_true (by omega)
      · -- a < 18446744073709551616
        first | omega | exact eq_no | exact (u64r _).1 | exact (u64r _).2 | omega | exact decide_eq_false (by omega) | exact decide_eq_true (by omega)
      · -- 0 ≤ IntKind.u64.wrap (a + (IntKind.u64.wrap y).tmod 4)
        first | exact Nat.le_refl _ | omega | exact eq_no | exact (u64r _).1 | exact (u64r _).2 | omega | exact decide_eq_false (by omega) | exact decide_eq_true (by omega)
      · -- IntKind.u64.wrap (a + (IntKind.u64.wrap y).tmod 4) < 18446744073709551616
        first | omega | exact eq_no | exact (u64r _).1 | exact (u64r _).2 | omega | exact decide_eq_false (by omega) | exact decide_eq_true (by omega)
      · -- 0 ≤ a
        first | exact Nat.le_refl _ | omega | exact eq_no | exact (u64r _).1 | exact (u64r _).2 | omega | exact decide_eq_false (by omega) | exact decide_eq_true (by omega)
      · -- a < 18446744073709551616
        first | omega | exact eq_no | exact (u64r _).1 | exact (u64r _).2 | omega | exact decide_eq_false (by omega) | exact decide_eq_true (by omega)
      · -- 0 ≤ IntKind.u64.wrap (a + (IntKind.u64.wrap y).tmod 4)
        first | exact Nat.le_refl _ | omega | exact eq_no | exact (u64r _).1 | exact (u64r _).2 | omega | exact decide_eq_false (by omega) | exact decide_eq_true (by omega)
      · -- IntKind.u64.wrap (a + (IntKind.u64.wrap y).tmod 4) < 18446744073709551616
        first | omega | exact eq_no | exact (u64r _).1 | exact (u64r _).2 | omega | exact decide_eq_false (by omega) | exact decide_eq_true (by omega)
      · -- ((mayB b a == mayB b a) == false) = false
        first | (apply Nat.ble_eq_true_of_le; omega) | (simp [Nat.blt_eq]; omega) | exact eq_no | exact (u64r _).1 | exact (u64r _).2 | omega | exact decide_eq_false (by omega) | exact decide_eq_true (by omega)
      · -- 0 ≤ b
        first | exact Nat.le_refl _ | omega | exact eq_no | exact (u64r _).1 | exact (u64r _).2 | omega | exact decide_eq_false (by omega) | exact decide_eq_true (by omega)
      · -- b < 18446744073709551616
        first | omega | exact eq_no | exact (u64r _).1 | exact (u64r _).2 | omega | exact decide_eq_false (by omega) | exact decide_eq_true (by omega)
      · -- 0 ≤ a
        first | exact Nat.le_refl _ | omega | exact eq_no | exact (u64r _).1 | exact (u64r _).2 | omega | exact decide_eq_false (by omega) | exact decide_eq_true (by omega)
      · -- a < 18446744073709551616
        first | omega | exact eq_no | exact (u64r _).1 | exact (u64r _).2 | omega | exact decide_eq_false (by omega) | exact decide_eq_true (by omega)
      · -- 0 ≤ b
        first | exact Nat.le_refl _ | omega | exact eq_no | exact (u64r _).1 | exact (u64r _).2 | omega | exact decide_eq_false (by omega) | exact decide_eq_true (by omega)
      · -- b < 18446744073709551616
        first | omega | exact eq_no | exact (u64r _).1 | exact (u64r _).2 | omega | exact decide_eq_false (by omega) | exact decide_eq_true (by omega)
      · -- 0 ≤ a
        first | exact Nat.le_refl _ | omega | exact eq_no | exact (u64r _).1 | exact (u64r _).2 | omega | exact decide_eq_false (by omega) | exact decide_eq_true (by omega)
      · -- a < 18446744073709551616
        first | omega | exact eq_no | exact (u64r _).1 | exact (u64r _).2 | omega | exact decide_eq_false (by omega) | exact decide_eq_true (by omega)
      · -- ((mayB a b == mayB a b) == false) = false
        first | (apply Nat.ble_eq_true_of_le; omega) | (simp [Nat.blt_eq]; omega) | exact eq_no | exact (u64r _).1 | exact (u64r _).2 | omega | exact decide_eq_false (by omega) | exact decide_eq_true (by omega)
      · -- 0 ≤ a
        first | exact Nat.le_refl _ | omega | exact eq_no | exact (u64r _).1 | exact (u64r _).2 | omega | exact decide_eq_false (by omega) | exact decide_eq_true (by omega)
      · -- a < 18446744073709551616
        first | omega | exact eq_no | exact (u64r _).1 | exact (u64r _).2 | omega | exact decide_eq_false (by omega) | exact decide_eq_true (by omega)
      · -- 0 ≤ b
        first | exact Nat.le_refl _ | omega | exact eq_no | exact (u64r _).1 | exact (u64r _).2 | omega | exact decide_eq_false (by omega) | exact decide_eq_true (by omega)
      · -- b < 18446744073709551616
        first | omega | exact eq_no | exact (u64r _).1 | exact (u64r _).2 | omega | exact decide_eq_false (by omega) | exact decide_eq_true (by omega)
      · -- 0 ≤ a
        first | exact Nat.le_refl _ | omega | exact eq_no | exact (u64r _).1 | exact (u64r _).2 | omega | exact decide_eq_false (by omega) | exact decide_eq_true (by omega)
      · -- a < 18446744073709551616
        first | omega | exact eq_no | exact (u64r _).1 | exact (u64r _).2 | omega | exact decide_eq_false (by omega) | exact decide_eq_true (by omega)
      · -- 0 ≤ b
        first | exact Nat.le_refl _ | omega | exact eq_no | exact (u64r _).1 | exact (u64r _).2 | omega | exact decide_eq_false (by omega) | exact decide_eq_true (by omega)
      · -- b < 18446744073709551616
        first | omega | exact eq_no | exact (u64r _).1 | exact (u64r _).2 | omega | exact decide_eq_false (by omega) | exact decide_eq_true (by omega)
end
theorem hown : ownKnob Try.prog.godebug = none := by kernel_rfl
theorem hlaidOut : laidOutB Try.prog = true := by kernel_rfl
theorem k52 : flatK Try.prog 4 52 = some [.int .u64, .int .u64] := by kernel_rfl
set_option maxRecDepth 100000 in
theorem epochsMay_runs : LawRuns Try.prog 5 [52, 5, 3] := by
  intro H enc W base args ds p hval hA
  obtain ⟨v0, v1, v2, d0, d1, d2, p0, p1, p2, hargs, rfl, rfl, h0, h1, h2⟩ := trodAll_three (args := args.toArray) hA
  obtain rfl : args = [v0, v1, v2] := by simpa using congrArg Array.toList hargs
  obtain ⟨a, ra, b, rb, rfl⟩ := open_flat_arr Try.underlying52 k52 (hval 0 52 v0 rfl rfl) h0
  obtain ⟨y, rfl, ry⟩ := okWide_num Try.underlying5 (hval 1 5 v1 rfl rfl)
  obtain ⟨t, rfl, rt⟩ := okWide_num Try.underlying3 (hval 2 3 v2 rfl rfl)
  obtain ⟨h, x, ob, hr, hx, hob⟩ := em_runs a b y t (u64_range ra) (u64_range rb)
  exact run_law' (W := W) (ls := []) EH_ok hr hx hob heapRep_nil (xs := [.agg #[.int .u64 a, .int .u64 b], .int .u8 y, .int .i64 t])
    (by simp [denL, den]) rfl (by decide) (Nat.le_refl _)

set_option maxRecDepth 100000 in
theorem epochsMay_lifted (os : Os) (started : os.Started) (H : Type) (enc : TypeId × Value → H) :
    ReturnsInHanded {} Try.checked os 5 .any (Rows.epochsMaySpec.pre6 enc Try.prog Try.f5 Rows.epochsMayRow.domain false) (Rows.epochsMaySpec.post enc Try.prog Try.f5 false true false false) := by
  refine returnsInHanded_of_change (C := Try.checked) hown started (by kernel_rfl) Try.func5
    (ChangeSpec.witness6 (enc := enc) (C := Try.checked) false ⟨#[], #[.agg #[.int .u64 0, .int .u64 0], .int .u8 0, .int .i64 0], []⟩ 8 (by kernel_rfl) (by kernel_rfl) (by kernel_rfl) (by kernel_rfl)) ?_
  intro W base args ds gs before hval0 hW hcnd _
  exact law_contract Try.params5 epochsMay_runs hlaidOut (of_decide_eq_true (by kernel_rfl)) (by kernel_rfl) Try.underlying4 rfl
    (fun ds hl => by match ds, hl with | [d0, d1, d2], _ => exact ⟨rfl, rfl, rfl⟩) W base args ds gs before hval0 hW

theorem epochsMay_holds : Rows.EpochsMaySaid :=
  OpenClaim.holds_of_wide 5 Try.f5 rfl rfl rfl rfl rfl rfl rfl ⟨rfl, rfl, rfl, rfl, rfl⟩ rfl rfl rfl rfl rfl (by kernel_rfl) Try.func5 (by kernel_rfl)
    (of_decide_eq_true (by kernel_rfl)) (by unfold Func.isWrapper; first | (rw [if_pos (by decide +kernel)]; kernel_rfl) | (rw [if_neg (by decide +kernel)]; exact ⟨rfl, rfl⟩))
    (fun os started H enc _ => epochsMay_lifted os started H enc)

#print axioms epochsMay_holds
end Go.Proofs.Ytadbohcdahddoaa
