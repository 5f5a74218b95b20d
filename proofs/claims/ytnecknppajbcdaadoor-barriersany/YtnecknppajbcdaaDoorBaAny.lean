/-
  For all inputs, BarriersAny returns true; its arguments read as before; the listed table is tied to the program's text. No condition.
-/
import Derived.Test.YtnecknppajbcdaaDoorBaAnyDef
import Derived.Test.YtnecknppajbcdaaDoorTie
import Derived.Test.YtnecknppajbcdaaDoorCards
import Derived.LaidMore
import Derived.ChangeMaps5
import Derived.OpenShut
import Derived.SevenTiedAt
set_option linter.unusedSimpArgs false
set_option linter.unusedVariables false
namespace Go.Proofs.YtnecknppajbcdaaDoor
open Go.Ev Go.ChangeShapes Go.WideShapes Go.ChangeAt Go.RowKit
set_option maxRecDepth 100000
section
variable (a b y : Int)
theorem an_1 : (callF EH 2000 4 [AV.sym IntKind.u64 a, AV.sym IntKind.u64 b, AV.sym IntKind.i8 y] ⟨(tabsH [(0, tab)]), 1, gnm 0, [Hint.node [(13, [Hint.b false])], Hint.b false, Hint.node [(13, [Hint.b false])], Hint.b false, Hint.node [(13, [Hint.b false])], Hint.b false, Hint.node [(13, [Hint.b false])], Hint.b false], [], [], false⟩).map (fun x => (x.1, x.2.ob, noneIn (tabsH [(0, tab)]) x.2.wr)) =
 some (AV.bool true, [tabF tab 0 3 = tabF tab 0 3,
 tabF tab 0 2 = tabF tab 0 2,
 tabF tab 0 1 = tabF tab 0 1,
 tabF tab 0 0 = tabF tab 0 0,
 ((reachB (IntKind.u64.wrap (IntKind.u64.wrap (a + 281474976710656) + IntKind.u64.wrap (IntKind.i64.wrap y))) a == reachB (IntKind.u64.wrap (IntKind.u64.wrap (a + 281474976710656) + IntKind.u64.wrap (IntKind.i64.wrap y))) a) == false) = false,
 0 ≤ IntKind.u64.wrap (IntKind.u64.wrap (a + 281474976710656) + IntKind.u64.wrap (IntKind.i64.wrap y)),
 IntKind.u64.wrap (IntKind.u64.wrap (a + 281474976710656) + IntKind.u64.wrap (IntKind.i64.wrap y)) < 18446744073709551616,
 0 ≤ a,
 a < 18446744073709551616,
 0 ≤ IntKind.u64.wrap (IntKind.u64.wrap (a + 281474976710656) + IntKind.u64.wrap (IntKind.i64.wrap y)),
 IntKind.u64.wrap (IntKind.u64.wrap (a + 281474976710656) + IntKind.u64.wrap (IntKind.i64.wrap y)) < 18446744073709551616,
 0 ≤ a,
 a < 18446744073709551616,
 ((reachB a (IntKind.u64.wrap (IntKind.u64.wrap (a + 281474976710656) + IntKind.u64.wrap (IntKind.i64.wrap y))) == reachB a (IntKind.u64.wrap (IntKind.u64.wrap (a + 281474976710656) + IntKind.u64.wrap (IntKind.i64.wrap y)))) == false) = false,
 0 ≤ a,
 a < 18446744073709551616,
 0 ≤ IntKind.u64.wrap (IntKind.u64.wrap (a + 281474976710656) + IntKind.u64.wrap (IntKind.i64.wrap y)),
 IntKind.u64.wrap (IntKind.u64.wrap (a + 281474976710656) + IntKind.u64.wrap (IntKind.i64.wrap y)) < 18446744073709551616,
 0 ≤ a,
 a < 18446744073709551616,
 0 ≤ IntKind.u64.wrap (IntKind.u64.wrap (a + 281474976710656) + IntKind.u64.wrap (IntKind.i64.wrap y)),
 IntKind.u64.wrap (IntKind.u64.wrap (a + 281474976710656) + IntKind.u64.wrap (IntKind.i64.wrap y)) < 18446744073709551616,
 ((reachB (IntKind.u64.wrap (IntKind.u64.wrap (a + 140737488355328) + IntKind.u64.wrap (IntKind.i64.wrap y))) a == reachB (IntKind.u64.wrap (IntKind.u64.wrap (a + 140737488355328) + IntKind.u64.wrap (IntKind.i64.wrap y))) a) == false) = false,
 0 ≤ IntKind.u64.wrap (IntKind.u64.wrap (a + 140737488355328) + IntKind.u64.wrap (IntKind.i64.wrap y)),
 IntKind.u64.wrap (IntKind.u64.wrap (a + 140737488355328) + IntKind.u64.wrap (IntKind.i64.wrap y)) < 18446744073709551616,
 0 ≤ a,
 a < 18446744073709551616,
 0 ≤ IntKind.u64.wrap (IntKind.u64.wrap (a + 140737488355328) + IntKind.u64.wrap (IntKind.i64.wrap y)),
 IntKind.u64.wrap (IntKind.u64.wrap (a + 140737488355328) + IntKind.u64.wrap (IntKind.i64.wrap y)) < 18446744073709551616,
 0 ≤ a,
 a < 18446744073709551616,
 ((reachB a (IntKind.u64.wrap (IntKind.u64.wrap (a + 140737488355328) + IntKind.u64.wrap (IntKind.i64.wrap y))) == reachB a (IntKind.u64.wrap (IntKind.u64.wrap (a + 140737488355328) + IntKind.u64.wrap (IntKind.i64.wrap y)))) == false) = false,
 0 ≤ a,
 a < 18446744073709551616,
 0 ≤ IntKind.u64.wrap (IntKind.u64.wrap (a + 140737488355328) + IntKind.u64.wrap (IntKind.i64.wrap y)),
 IntKind.u64.wrap (IntKind.u64.wrap (a + 140737488355328) + IntKind.u64.wrap (IntKind.i64.wrap y)) < 18446744073709551616,
 0 ≤ a,
 a < 18446744073709551616,
 0 ≤ IntKind.u64.wrap (IntKind.u64.wrap (a + 140737488355328) + IntKind.u64.wrap (IntKind.i64.wrap y)),
 IntKind.u64.wrap (IntKind.u64.wrap (a + 140737488355328) + IntKind.u64.wrap (IntKind.i64.wrap y)) < 18446744073709551616,
 ((reachB (IntKind.u64.wrap (a + IntKind.u64.wrap (IntKind.i64.wrap y))) a == reachB (IntKind.u64.wrap (a + IntKind.u64.wrap (IntKind.i64.wrap y))) a) == false) = false,
 0 ≤ IntKind.u64.wrap (a + IntKind.u64.wrap (IntKind.i64.wrap y)),
 IntKind.u64.wrap (a + IntKind.u64.wrap (IntKind.i64.wrap y)) < 18446744073709551616,
 0 ≤ a,
 a < 18446744073709551616,
 0 ≤ IntKind.u64.wrap (a + IntKind.u64.wrap (IntKind.i64.wrap y)),
 IntKind.u64.wrap (a + IntKind.u64.wrap (IntKind.i64.wrap y)) < 18446744073709551616,
 0 ≤ a,
 a < 18446744073709551616,
 ((reachB a (IntKind.u64.wrap (a + IntKind.u64.wrap (IntKind.i64.wrap y))) == reachB a (IntKind.u64.wrap (a + IntKind.u64.wrap (IntKind.i64.wrap y)))) == false) = false,
 0 ≤ a,
 a < 18446744073709551616,
 0 ≤ IntKind.u64.wrap (a + IntKind.u64.wrap (IntKind.i64.wrap y)),
 IntKind.u64.wrap (a + IntKind.u64.wrap (IntKind.i64.wrap y)) < 18446744073709551616,
 0 ≤ a,
 a < 18446744073709551616,
 0 ≤ IntKind.u64.wrap (a + IntKind.u64.wrap (IntKind.i64.wrap y)),
 IntKind.u64.wrap (a + IntKind.u64.wrap (IntKind.i64.wrap y)) < 18446744073709551616,
 ((reachB b a == reachB b a) == false) = false,
 0 ≤ b,
 b < 18446744073709551616,
 0 ≤ a,
 a < 18446744073709551616,
 0 ≤ b,
 b < 18446744073709551616,
 0 ≤ a,
 a < 18446744073709551616,
 ((reachB a b == reachB a b) == false) = false,
 0 ≤ a,
 a < 18446744073709551616,
 0 ≤ b,
 b < 18446744073709551616,
 0 ≤ a,
 a < 18446744073709551616,
 0 ≤ b,
 b < 18446744073709551616], true) := by kernel_rfl
theorem an_runs (ra : 0 ≤ a ∧ a < 18446744073709551616) (rb : 0 ≤ b ∧ b < 18446744073709551616) : Runs (anyRun a b y) := by
  refine ⟨_, _, _, an_1 a b y, .inl rfl, (ob_cons rfl (ob_cons rfl (ob_cons rfl (ob_cons rfl (ob_cons ?_ (ob_cons ?_ (ob_cons ?_ (ob_cons ?_ (ob_cons ?_ (ob_cons ?_ (ob_cons ?_ (ob_cons ?_ (ob_cons ?_ (ob_cons ?_ (ob_cons ?_ (ob_cons ?_ (ob_cons ?_ (ob_cons ?_ (ob_cons ?_ (ob_cons ?_ (ob_cons ?_ (ob_cons ?_ (ob_cons ?_ (ob_cons ?_ (ob_cons ?_ (ob_cons ?_ (ob_cons ?_ (ob_cons ?_ (ob_cons ?_ (ob_cons ?_ (ob_cons ?_ (ob_cons ?_ (ob_cons ?_ (ob_cons ?_ (ob_cons ?_ (ob_cons ?_ (ob_cons ?_ (ob_cons ?_ (ob_cons ?_ (ob_cons ?_ (ob_cons ?_ (ob_cons ?_ (ob_cons ?_ (ob_cons ?_ (ob_cons ?_ (ob_cons ?_ (ob_cons ?_ (ob_cons ?_ (ob_cons ?_ (ob_cons ?_ (ob_cons ?_ (ob_cons ?_ (ob_cons ?_ (ob_cons ?_ (ob_cons ?_ (ob_cons ?_ (ob_cons ?_ (ob_cons ?_ (ob_cons ?_ (ob_cons ?_ (ob_cons ?_ (ob_cons ?_ (ob_cons ?_ (ob_cons ?_ (ob_cons ?_ (ob_cons ?_ (ob_cons ?_ (ob_cons ?_ (ob_cons ?_ (ob_cons ?_ (ob_cons ?_ (ob_cons ?_ (ob_cons ?_ (ob_cons ?_ (ob_cons ?_ (ob_cons ?_ ob_nil))))))))))))))))))))))))))))))))))))))))))))))))))))))))))))))))))))))))))))⟩
  · -- ((reachB (IntKind.u64.wrap (IntKind.u64.wrap (a + 281474976710656) + IntKind.u64.wrap (IntKind.i64.wrap y))) a ==       reachB (IntKind.u64.wrap (IntKind.u64.wrap (a + 281474976710656) + IntKind.u64.wrap (IntKind.i64.wrap y))) a) ==     false) =   false
    first | (apply Nat.ble_eq_true_of_le; omega) | (simp [Nat.blt_eq]; omega) | exact eq_no | exact (u64r _).1 | exact (u64r _).2 | omega
  · -- 0 ≤ IntKind.u64.wrap (IntKind.u64.wrap (a + 281474976710656) + IntKind.u64.wrap (IntKind.i64.wrap y))
    first | exact Nat.le_refl _ | omega | exact eq_no | exact (u64r _).1 | exact (u64r _).2 | omega
  · -- IntKind.u64.wrap (IntKind.u64.wrap (a + 281474976710656) + IntKind.u64.wrap (IntKind.i64.wrap y)) < 18446744073709551616
    first | omega | exact eq_no | exact (u64r _).1 | exact (u64r _).2 | omega
  · -- 0 ≤ a
    first | exact Nat.le_refl _ | omega | exact eq_no | exact (u64r _).1 | exact (u64r _).2 | omega
  · -- a < 18446744073709551616
    first | omega | exact eq_no | exact (u64r _).1 | exact (u64r _).2 | omega
  · -- 0 ≤ IntKind.u64.wrap (IntKind.u64.wrap (a + 281474976710656) + IntKind.u64.wrap (IntKind.i64.wrap y))
    first | exact Nat.le_refl _ | omega | exact eq_no | exact (u64r _).1 | exact (u64r _).2 | omega
  · -- IntKind.u64.wrap (IntKind.u64.wrap (a + 281474976710656) + IntKind.u64.wrap (IntKind.i64.wrap y)) < 18446744073709551616
    first | omega | exact eq_no | exact (u64r _).1 | exact (u64r _).2 | omega
  · -- 0 ≤ a
    first | exact Nat.le_refl _ | omega | exact eq_no | exact (u64r _).1 | exact (u64r _).2 | omega
  · -- a < 18446744073709551616
    first | omega | exact eq_no | exact (u64r _).1 | exact (u64r _).2 | omega
  · -- ((reachB a (IntKind.u64.wrap (IntKind.u64.wrap (a + 281474976710656) + IntKind.u64.wrap (IntKind.i64.wrap y))) ==       reachB a (IntKind.u64.wrap (IntKind.u64.wrap (a + 281474976710656) + IntKind.u64.wrap (IntKind.i64.wrap y)))) ==     false) =   false
    first | (apply Nat.ble_eq_true_of_le; omega) | (simp [Nat.blt_eq]; omega) | exact eq_no | exact (u64r _).1 | exact (u64r _).2 | omega
  · -- 0 ≤ a
    first | exact Nat.le_refl _ | omega | exact eq_no | exact (u64r _).1 | exact (u64r _).2 | omega
  · -- a < 18446744073709551616
    first | omega | exact eq_no | exact (u64r _).1 | exact (u64r _).2 | omega
  · -- 0 ≤ IntKind.u64.wrap (IntKind.u64.wrap (a + 281474976710656) + IntKind.u64.wrap (IntKind.i64.wrap y))
    first | exact Nat.le_refl _ | omega | exact eq_no | exact (u64r _).1 | exact (u64r _).2 | omega
  · -- IntKind.u64.wrap (IntKind.u64.wrap (a + 281474976710656) + IntKind.u64.wrap (IntKind.i64.wrap y)) < 18446744073709551616
    first | omega | exact eq_no | exact (u64r _).1 | exact (u64r _).2 | omega
  · -- 0 ≤ a
    first | exact Nat.le_refl _ | omega | exact eq_no | exact (u64r _).1 | exact (u64r _).2 | omega
  · -- a < 18446744073709551616
    first | omega | exact eq_no | exact (u64r _).1 | exact (u64r _).2 | omega
  · -- 0 ≤ IntKind.u64.wrap (IntKind.u64.wrap (a + 281474976710656) + IntKind.u64.wrap (IntKind.i64.wrap y))
    first | exact Nat.le_refl _ | omega | exact eq_no | exact (u64r _).1 | exact (u64r _).2 | omega
  · -- IntKind.u64.wrap (IntKind.u64.wrap (a + 281474976710656) + IntKind.u64.wrap (IntKind.i64.wrap y)) < 18446744073709551616
    first | omega | exact eq_no | exact (u64r _).1 | exact (u64r _).2 | omega
  · -- ((reachB (IntKind.u64.wrap (IntKind.u64.wrap (a + 140737488355328) + IntKind.u64.wrap (IntKind.i64.wrap y))) a ==       reachB (IntKind.u64.wrap (IntKind.u64.wrap (a + 140737488355328) + IntKind.u64.wrap (IntKind.i64.wrap y))) a) ==     false) =   false
    first | (apply Nat.ble_eq_true_of_le; omega) | (simp [Nat.blt_eq]; omega) | exact eq_no | exact (u64r _).1 | exact (u64r _).2 | omega
  · -- 0 ≤ IntKind.u64.wrap (IntKind.u64.wrap (a + 140737488355328) + IntKind.u64.wrap (IntKind.i64.wrap y))
    first | exact Nat.le_refl _ | omega | exact eq_no | exact (u64r _).1 | exact (u64r _).2 | omega
  · -- IntKind.u64.wrap (IntKind.u64.wrap (a + 140737488355328) + IntKind.u64.wrap (IntKind.i64.wrap y)) < 18446744073709551616
    first | omega | exact eq_no | exact (u64r _).1 | exact (u64r _).2 | omega
  · -- 0 ≤ a
    first | exact Nat.le_refl _ | omega | exact eq_no | exact (u64r _).1 | exact (u64r _).2 | omega
  · -- a < 18446744073709551616
    first | omega | exact eq_no | exact (u64r _).1 | exact (u64r _).2 | omega
  · -- 0 ≤ IntKind.u64.wrap (IntKind.u64.wrap (a + 140737488355328) + IntKind.u64.wrap (IntKind.i64.wrap y))
    first | exact Nat.le_refl _ | omega | exact eq_no | exact (u64r _).1 | exact (u64r _).2 | omega
  · -- IntKind.u64.wrap (IntKind.u64.wrap (a + 140737488355328) + IntKind.u64.wrap (IntKind.i64.wrap y)) < 18446744073709551616
    first | omega | exact eq_no | exact (u64r _).1 | exact (u64r _).2 | omega
  · -- 0 ≤ a
    first | exact Nat.le_refl _ | omega | exact eq_no | exact (u64r _).1 | exact (u64r _).2 | omega
  · -- a < 18446744073709551616
    first | omega | exact eq_no | exact (u64r _).1 | exact (u64r _).2 | omega
  · -- ((reachB a (IntKind.u64.wrap (IntKind.u64.wrap (a + 140737488355328) + IntKind.u64.wrap (IntKind.i64.wrap y))) ==       reachB a (IntKind.u64.wrap (IntKind.u64.wrap (a + 140737488355328) + IntKind.u64.wrap (IntKind.i64.wrap y)))) ==     false) =   false
    first | (apply Nat.ble_eq_true_of_le; omega) | (simp [Nat.blt_eq]; omega) | exact eq_no | exact (u64r _).1 | exact (u64r _).2 | omega
  · -- 0 ≤ a
    first | exact Nat.le_refl _ | omega | exact eq_no | exact (u64r _).1 | exact (u64r _).2 | omega
  · -- a < 18446744073709551616
    first | omega | exact eq_no | exact (u64r _).1 | exact (u64r _).2 | omega
  · -- 0 ≤ IntKind.u64.wrap (IntKind.u64.wrap (a + 140737488355328) + IntKind.u64.wrap (IntKind.i64.wrap y))
    first | exact Nat.le_refl _ | omega | exact eq_no | exact (u64r _).1 | exact (u64r _).2 | omega
  · -- IntKind.u64.wrap (IntKind.u64.wrap (a + 140737488355328) + IntKind.u64.wrap (IntKind.i64.wrap y)) < 18446744073709551616
    first | omega | exact eq_no | exact (u64r _).1 | exact (u64r _).2 | omega
  · -- 0 ≤ a
    first | exact Nat.le_refl _ | omega | exact eq_no | exact (u64r _).1 | exact (u64r _).2 | omega
  · -- a < 18446744073709551616
    first | omega | exact eq_no | exact (u64r _).1 | exact (u64r _).2 | omega
  · -- 0 ≤ IntKind.u64.wrap (IntKind.u64.wrap (a + 140737488355328) + IntKind.u64.wrap (IntKind.i64.wrap y))
    first | exact Nat.le_refl _ | omega | exact eq_no | exact (u64r _).1 | exact (u64r _).2 | omega
  · -- IntKind.u64.wrap (IntKind.u64.wrap (a + 140737488355328) + IntKind.u64.wrap (IntKind.i64.wrap y)) < 18446744073709551616
    first | omega | exact eq_no | exact (u64r _).1 | exact (u64r _).2 | omega
  · -- ((reachB (IntKind.u64.wrap (a + IntKind.u64.wrap (IntKind.i64.wrap y))) a ==       reachB (IntKind.u64.wrap (a + IntKind.u64.wrap (IntKind.i64.wrap y))) a) ==     false) =   false
    first | (apply Nat.ble_eq_true_of_le; omega) | (simp [Nat.blt_eq]; omega) | exact eq_no | exact (u64r _).1 | exact (u64r _).2 | omega
  · -- 0 ≤ IntKind.u64.wrap (a + IntKind.u64.wrap (IntKind.i64.wrap y))
    first | exact Nat.le_refl _ | omega | exact eq_no | exact (u64r _).1 | exact (u64r _).2 | omega
  · -- IntKind.u64.wrap (a + IntKind.u64.wrap (IntKind.i64.wrap y)) < 18446744073709551616
    first | omega | exact eq_no | exact (u64r _).1 | exact (u64r _).2 | omega
  · -- 0 ≤ a
    first | exact Nat.le_refl _ | omega | exact eq_no | exact (u64r _).1 | exact (u64r _).2 | omega
  · -- a < 18446744073709551616
    first | omega | exact eq_no | exact (u64r _).1 | exact (u64r _).2 | omega
  · -- 0 ≤ IntKind.u64.wrap (a + IntKind.u64.wrap (IntKind.i64.wrap y))
    first | exact Nat.le_refl _ | omega | exact eq_no | exact (u64r _).1 | exact (u64r _).2 | omega
  · -- IntKind.u64.wrap (a + IntKind.u64.wrap (IntKind.i64.wrap y)) < 18446744073709551616
    first | omega | exact eq_no | exact (u64r _).1 | exact (u64r _).2 | omega
  · -- 0 ≤ a
    first | exact Nat.le_refl _ | omega | exact eq_no | exact (u64r _).1 | exact (u64r _).2 | omega
  · -- a < 18446744073709551616
    first | omega | exact eq_no | exact (u64r _).1 | exact (u64r _).2 | omega
  · -- ((reachB a (IntKind.u64.wrap (a + IntKind.u64.wrap (IntKind.i64.wrap y))) ==       reachB a (IntKind.u64.wrap (a + IntKind.u64.wrap (IntKind.i64.wrap y)))) ==     false) =   false
    first | (apply Nat.ble_eq_true_of_le; omega) | (simp [Nat.blt_eq]; omega) | exact eq_no | exact (u64r _).1 | exact (u64r _).2 | omega
  · -- 0 ≤ a
    first | exact Nat.le_refl _ | omega | exact eq_no | exact (u64r _).1 | exact (u64r _).2 | omega
  · -- a < 18446744073709551616
    first | omega | exact eq_no | exact (u64r _).1 | exact (u64r _).2 | omega
  · -- 0 ≤ IntKind.u64.wrap (a + IntKind.u64.wrap (IntKind.i64.wrap y))
    first | exact Nat.le_refl _ | omega | exact eq_no | exact (u64r _).1 | exact (u64r _).2 | omega
  · -- IntKind.u64.wrap (a + IntKind.u64.wrap (IntKind.i64.wrap y)) < 18446744073709551616
    first | omega | exact eq_no | exact (u64r _).1 | exact (u64r _).2 | omega
  · -- 0 ≤ a
    first | exact Nat.le_refl _ | omega | exact eq_no | exact (u64r _).1 | exact (u64r _).2 | omega
  · -- a < 18446744073709551616
    first | omega | exact eq_no | exact (u64r _).1 | exact (u64r _).2 | omega
  · -- 0 ≤ IntKind.u64.wrap (a + IntKind.u64.wrap (IntKind.i64.wrap y))
    first | exact Nat.le_refl _ | omega | exact eq_no | exact (u64r _).1 | exact (u64r _).2 | omega
  · -- IntKind.u64.wrap (a + IntKind.u64.wrap (IntKind.i64.wrap y)) < 18446744073709551616
    first | omega | exact eq_no | exact (u64r _).1 | exact (u64r _).2 | omega
  · -- ((reachB b a == reachB b a) == false) = false
    first | (apply Nat.ble_eq_true_of_le; omega) | (simp [Nat.blt_eq]; omega) | exact eq_no | exact (u64r _).1 | exact (u64r _).2 | omega
  · -- 0 ≤ b
    first | exact Nat.le_refl _ | omega | exact eq_no | exact (u64r _).1 | exact (u64r _).2 | omega
  · -- b < 18446744073709551616
    first | omega | exact eq_no | exact (u64r _).1 | exact (u64r _).2 | omega
  · -- 0 ≤ a
    first | exact Nat.le_refl _ | omega | exact eq_no | exact (u64r _).1 | exact (u64r _).2 | omega
  · -- a < 18446744073709551616
    first | omega | exact eq_no | exact (u64r _).1 | exact (u64r _).2 | omega
  · -- 0 ≤ b
    first | exact Nat.le_refl _ | omega | exact eq_no | exact (u64r _).1 | exact (u64r _).2 | omega
  · -- b < 18446744073709551616
    first | omega | exact eq_no | exact (u64r _).1 | exact (u64r _).2 | omega
  · -- 0 ≤ a
    first | exact Nat.le_refl _ | omega | exact eq_no | exact (u64r _).1 | exact (u64r _).2 | omega
  · -- a < 18446744073709551616
    first | omega | exact eq_no | exact (u64r _).1 | exact (u64r _).2 | omega
  · -- ((reachB a b == reachB a b) == false) = false
    first | (apply Nat.ble_eq_true_of_le; omega) | (simp [Nat.blt_eq]; omega) | exact eq_no | exact (u64r _).1 | exact (u64r _).2 | omega
  · -- 0 ≤ a
    first | exact Nat.le_refl _ | omega | exact eq_no | exact (u64r _).1 | exact (u64r _).2 | omega
  · -- a < 18446744073709551616
    first | omega | exact eq_no | exact (u64r _).1 | exact (u64r _).2 | omega
  · -- 0 ≤ b
    first | exact Nat.le_refl _ | omega | exact eq_no | exact (u64r _).1 | exact (u64r _).2 | omega
  · -- b < 18446744073709551616
    first | omega | exact eq_no | exact (u64r _).1 | exact (u64r _).2 | omega
  · -- 0 ≤ a
    first | exact Nat.le_refl _ | omega | exact eq_no | exact (u64r _).1 | exact (u64r _).2 | omega
  · -- a < 18446744073709551616
    first | omega | exact eq_no | exact (u64r _).1 | exact (u64r _).2 | omega
  · -- 0 ≤ b
    first | exact Nat.le_refl _ | omega | exact eq_no | exact (u64r _).1 | exact (u64r _).2 | omega
  · -- b < 18446744073709551616
    first | omega | exact eq_no | exact (u64r _).1 | exact (u64r _).2 | omega
end
theorem hown : ownKnob Tryd.prog.godebug = none := by kernel_rfl
theorem hlaidOut : laidOutB Tryd.prog = true := by kernel_rfl
theorem barriersAny_tabs : TabsOk Tryd.prog [("ragpicker/barriers.fields", Rows.laid_ragpicker_barriers_fields)] [(0, tab)] := tabsOkB_ok (by kernel_rfl)
set_option maxRecDepth 100000 in
theorem barriersAny_runs : LawRunsT Tryd.prog 4 [22, 22, 44] [(0, tab)] := by
  intro H enc W base args ds p hval hA htab
  obtain ⟨v0, v1, v2, d0, d1, d2, p0, p1, p2, hargs, rfl, rfl, h0, h1, h2⟩ := trodAll_three (args := args.toArray) hA
  obtain rfl : args = [v0, v1, v2] := by simpa using congrArg Array.toList hargs
  obtain ⟨a, rfl, ra⟩ := okWide_num Tryd.underlying22 (hval 0 22 v0 rfl rfl)
  obtain ⟨b, rfl, rb⟩ := okWide_num Tryd.underlying22 (hval 1 22 v1 rfl rfl)
  obtain ⟨y, rfl, ry⟩ := okWide_num Tryd.underlying44 (hval 2 44 v2 rfl rfl)
  obtain ⟨h, x, ob, hr, hx, hob⟩ := an_runs a b y (u64_range ra) (u64_range rb)
  exact run_lawG (W := W) (ρ := inpT [] [(0, tab)]) EH_ok hr hx hob (heapRepT (heap := []) (ls := []) (nxt := 1) rfl (by decide) rfl htab (fun n o e => by simp [Go.Ev.get] at e)) (xs := [.int .u64 a, .int .u64 b, .int .i8 y])
    (by simp [denL, den]) (inpT_fresh (nxt := 1) rfl (Nat.le_refl _)) (inpT_glob (nxt := 1) rfl (by decide))

theorem barriersAny_met (os : Os) (args : Array Value) : laidMetH Tryd.prog [("ragpicker/barriers.fields", Rows.laid_ragpicker_barriers_fields)] ((World.doorLaid Tryd.prog 400 os).forCall (fun _ _ => 0) ⟨#[], args, []⟩).memory :=
  laidMetH_of_parts3 (fuel := 8) (laidMet_of_run' 8 (by kernel_rfl) (by kernel_rfl)) (by kernel_rfl) (by kernel_rfl)
set_option maxRecDepth 100000 in
theorem barriersAny_lifted (os : Os) (started : os.Started) (H : Type) (enc : TypeId × Value → H) :
    ReturnsInHanded {} Tryd.checked os 4 .any (fun w args => (Rows.barriersAnySpec.pre enc Tryd.prog Tryd.f4 [] false w args ∧ laidMetH Tryd.prog [("ragpicker/barriers.fields", Rows.laid_ragpicker_barriers_fields)] w) ∧ sizedMet enc Tryd.prog Tryd.f4 (OpenSpec.ofChange Rows.barriersAnySpec) false w args)
      (Rows.barriersAnySpec.post enc Tryd.prog Tryd.f4 false true false false) := by
  refine returnsInHanded_of_change_and (C := Tryd.checked) (X := fun w _ => laidMetH Tryd.prog [("ragpicker/barriers.fields", Rows.laid_ragpicker_barriers_fields)] w) (fun _ _ _ hh h => h.of_heap hh) hown started (by kernel_rfl) Tryd.func4
    (ChangeSpec.witness_shaped (enc := enc) (C := Tryd.checked) (os := os) (X := fun w _ => laidMetH Tryd.prog [("ragpicker/barriers.fields", Rows.laid_ragpicker_barriers_fields)] w) false (World.doorLaid Tryd.prog 400 os) #[.int .u64 0, .int .u64 0, .int .i8 0] 8 rfl (World.shaped_of_RefB (by kernel_rfl) (by kernel_rfl)) (by kernel_rfl) (by kernel_rfl) (by kernel_rfl) (barriersAny_met os _)) ?_
  intro W base args ds gs before hval0 hW _ _ hL _
  exact law_contractT Tryd.params4 barriersAny_runs hlaidOut (of_decide_eq_true (by kernel_rfl)) (by kernel_rfl) Tryd.underlying4 rfl
    (fun ds hl => by match ds, hl with | [d0, d1, d2], _ => exact ⟨rfl, rfl, rfl⟩) W base args ds gs before hval0 hW (tabs_laid (by kernel_rfl) barriersAny_tabs hL)

theorem barriersAny_row : Rows.BarriersAnySaid :=
  OpenClaim.holds_of_wide 4 Tryd.f4 rfl rfl rfl rfl rfl rfl rfl ⟨rfl, rfl, rfl, rfl, rfl⟩ rfl rfl rfl rfl rfl (by kernel_rfl) Tryd.func4 (by kernel_rfl)
    (of_decide_eq_true (by kernel_rfl)) (by unfold Func.isWrapper; first | (rw [if_pos (by decide +kernel)]; kernel_rfl) | (rw [if_neg (by decide +kernel)]; exact ⟨rfl, rfl⟩))
    (fun os started H enc _ => barriersAny_lifted os started H enc)

theorem barriersAny_holds : Rows.BarriersAnyCardSaid :=
  Claim7.holds_tied_plain_at .later [] [.data] true (true, "1299a5001f40a97bbc59d9d1a806be69460b1a08a46972ce1973bd728232238e") false barriersAny_row (fun _ h => by cases h) (by kernel_rfl) (fun _ h => by cases h) barriersAny_row_tie rfl ⟨rfl, rfl⟩ (by kernel_rfl) rfl
    (fun f fn hf hfn => by
      obtain rfl : f = 4 := Option.some.inj ((show Tryd.prog.funcNamed "ragpicker/ragpickerlaw22.BarriersAny" = some 4 by kernel_rfl).symm.trans hf) |>.symm
      obtain rfl : fn = Tryd.f4 := (Option.some.inj (Tryd.func4.symm.trans hfn)).symm
      exact ⟨by kernel_rfl, fun j t ht => by
        rw [Tryd.params4] at ht
        have hm : t ∈ [22, 22, 44] := by simpa using Array.mem_of_getElem? ht
        have hall : ([22, 22, 44].all fun u => !Tryd.prog.wantsStandIn u) = true := by kernel_rfl
        exact (show Tryd.prog.wantsStandIn t = false by simpa using List.all_eq_true.1 hall t hm)⟩)
    (by kernel_rfl)

#print axioms barriersAny_holds
end Go.Proofs.YtnecknppajbcdaaDoor
