/-
  HazardsHeld: definitions.
-/
import Derived.Test.YtljeiencnpnbkaaDoorUHa
import Derived.Test.YtljeiencnpnbkaaDoorUHc
import Derived.Test.YtljeiencnpnbkaaDoorUL16
import Derived.Test.YtljeiencnpnbkaaDoorEvLoc2
set_option linter.unusedSimpArgs false
set_option linter.unusedVariables false
namespace Go.Proofs.YtljeiencnpnbkaaDoor
open Go.Ev
noncomputable def EHz : Env := envG Tryd.prog [(10, locSP hldSpec), (13, locSP mahSpec), (9, locSP l16Spec)]
theorem EHz_ok : EnvOk EHz := envG_ok mgood ⟨locSP_ok hldSpec_ok, locSP_ok mahSpec_ok, locSP_ok l16Spec_ok, trivial⟩
noncomputable def hzRun (m : Nat) (f : Nat → Nat → AV) (mn : Nat) (fe : Nat → Nat → AV) (h : List Hint) : Option (AV × List Prop × Bool) := (callF EHz 6000 4 [.ss 10 1 0 m none, .ss 6 2 0 mn none] ⟨[(gnm 0, tabAO tab), (1, .arr 10 [.int .u64, .int .u64, .int .u64, .int .u64, .int .u64, .int .u64, .int .u64, .int .u64, .int .u64, .int .u64] true m f), (2, .arr 6 [.int .i64, .int .u32, .bool, .int .u64, .int .u64, .int .u64] true mn fe)], 3, gnm 0, h, [], [], false⟩).map (fun x => (x.1, x.2.ob, noneIn [(gnm 0, tabAO tab), (1, .arr 10 [.int .u64, .int .u64, .int .u64, .int .u64, .int .u64, .int .u64, .int .u64, .int .u64, .int .u64, .int .u64] true m f), (2, .arr 6 [.int .i64, .int .u32, .bool, .int .u64, .int .u64, .int .u64] true mn fe)] x.2.wr))
theorem rows_u64 {len : Nat} {num : Nat → Nat → Int} {bit : Nat → Nat → Bool} (h : ∀ i, i < len → ∀ (j : Nat) k, [.int .u64, .int .u64, .int .u64, .int .u64, .int .u64, .int .u64, .int .u64, .int .u64, .int .u64, .int .u64][j]? = some (CK.int k) → (Lit.int k (num i j)).wf = true) : ∀ i, i < len → ∀ j, 0 ≤ avInt (rowAV [.int .u64, .int .u64, .int .u64, .int .u64, .int .u64, .int .u64, .int .u64, .int .u64, .int .u64, .int .u64] num bit (0 + i) j) ∧ avInt (rowAV [.int .u64, .int .u64, .int .u64, .int .u64, .int .u64, .int .u64, .int .u64, .int .u64, .int .u64, .int .u64] num bit (0 + i) j) < 18446744073709551616 := by
  intro i hi j
  rw [Nat.zero_add]
  match j with
  | 0 => exact u64_range (h i hi 0 .u64 rfl)
  | 1 => exact u64_range (h i hi 1 .u64 rfl)
  | 2 => exact u64_range (h i hi 2 .u64 rfl)
  | 3 => exact u64_range (h i hi 3 .u64 rfl)
  | 4 => exact u64_range (h i hi 4 .u64 rfl)
  | 5 => exact u64_range (h i hi 5 .u64 rfl)
  | 6 => exact u64_range (h i hi 6 .u64 rfl)
  | 7 => exact u64_range (h i hi 7 .u64 rfl)
  | 8 => exact u64_range (h i hi 8 .u64 rfl)
  | 9 => exact u64_range (h i hi 9 .u64 rfl)
  | j + 10 => exact ⟨(by decide : (0 : Int) ≤ 0), (by decide : (0 : Int) < 18446744073709551616)⟩
end Go.Proofs.YtljeiencnpnbkaaDoor
