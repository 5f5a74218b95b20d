/-
  TablesFull: definitions.
-/
import Derived.Test.YtmndhjodbnojdaaDoorJTh1
set_option linter.unusedSimpArgs false
set_option linter.unusedVariables false
namespace Go.Proofs.YtmndhjodbnojdaaDoor
open Go.Ev
def bF (p : Nat → Bool) : Nat → Nat → AV := fun i _ => .symb (p i)
noncomputable def ETi : Env := envG Tryd.prog ([(29, locSP jddSpec), (30, locSP lddSpec), (27, locSP jvdSpec), (26, tabSP 0 tab blkS)] ++ memSP)
theorem ETi_ok : EnvOk ETi := envG_ok mgood ⟨locSP_ok jddSpec_ok, locSP_ok lddSpec_ok, locSP_ok jvdSpec_ok, tabSP_ok rfl blkS_ok, memSP_ok⟩
theorem bF0_rows : ∀ i, i < 16 → rowOb [.bool] 0 (listRow 1 [.bool false, .bool false, .bool false, .bool false, .bool false, .bool false, .bool false, .bool false, .bool false, .bool false, .bool false, .bool false, .bool false, .bool false, .bool false, .bool false] i) (bF (fun _ => false) i) := fun i hi => by
  have h : i = 0 ∨ i = 1 ∨ i = 2 ∨ i = 3 ∨ i = 4 ∨ i = 5 ∨ i = 6 ∨ i = 7 ∨ i = 8 ∨ i = 9 ∨ i = 10 ∨ i = 11 ∨ i = 12 ∨ i = 13 ∨ i = 14 ∨ i = 15 := by omega
  rcases h with rfl | rfl | rfl | rfl | rfl | rfl | rfl | rfl | rfl | rfl | rfl | rfl | rfl | rfl | rfl | rfl <;> exact ⟨rfl, trivial⟩
end Go.Proofs.YtmndhjodbnojdaaDoor
