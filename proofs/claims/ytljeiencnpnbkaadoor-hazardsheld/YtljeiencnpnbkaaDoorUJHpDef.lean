/-
  Hazards: held, a contract: definitions.
-/
import Derived.Test.YtljeiencnpnbkaaDoorUJHm
set_option linter.unusedSimpArgs false
set_option linter.unusedVariables false
namespace Go.Proofs.YtljeiencnpnbkaaDoor.J
open Go.Ev

noncomputable def hmpH (m : Nat) (f : Nat → Nat → AV) (e : Int) (FT : Nat → Nat → AV) : List (Nat × AO) := [(gnm 0, .arr tab.length (tab.map kindOfV) true 1 FT), (1, .arr 10 [.int .u64, .int .u64, .int .u64, .int .u64, .int .u64, .int .u64, .int .u64, .int .u64, .int .u64, .int .u64] false m f)]
noncomputable def hmpR (m : Nat) (f : Nat → Nat → AV) (e : Int) (FT : Nat → Nat → AV) : LR := ⟨1, .map 2, [(gnm 0, .arr tab.length (tab.map kindOfV) true 1 FT), (2, .map 102 (hM f m)), (1, .arr 10 [.int .u64, .int .u64, .int .u64, .int .u64, .int .u64, .int .u64, .int .u64, .int .u64, .int .u64, .int .u64] false m f)], 1, [], [FT = tabF tab, m ≤ 300, ∀ i, i < m → ∀ j, 0 ≤ avInt (f (0 + i) j) ∧ avInt (f (0 + i) j) < 18446744073709551616]⟩
end Go.Proofs.YtljeiencnpnbkaaDoor.J
