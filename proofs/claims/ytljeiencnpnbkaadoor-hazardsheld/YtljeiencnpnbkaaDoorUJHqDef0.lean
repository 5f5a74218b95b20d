/-
  UJHqDef0 and what follows it.
-/
import Derived.Test.YtljeiencnpnbkaaDoorUJHp
import Derived.Test.YtljeiencnpnbkaaDoorUKrh
import Derived.Test.YtljeiencnpnbkaaDoorUHqDef0
/-
  Hazards: contracts for Held, May: definitions.
-/
set_option linter.unusedSimpArgs false
set_option linter.unusedVariables false
namespace Go.Proofs.YtljeiencnpnbkaaDoor.J
open Go.Ev
noncomputable def EHl : Env := envG Tryd.prog [(49, locSP hmpSpec), (47, rawSP srfSpec)]
theorem EHl_ok : EnvOk EHl := envG_ok mgood ⟨locSP_ok hmpSpec_ok, rawSP_ok srfSpec_ok, trivial⟩
end Go.Proofs.YtljeiencnpnbkaaDoor.J

/-
  Hazards: Held, May: contracts: definitions.
-/
set_option linter.unusedSimpArgs false
set_option linter.unusedVariables false
namespace Go.Proofs.YtljeiencnpnbkaaDoor.J
open Go.Ev

noncomputable def hldH (m : Nat) (f : Nat → Nat → AV) (e : Int) (FT : Nat → Nat → AV) : List (Nat × AO) := [(gnm 0, .arr tab.length (tab.map kindOfV) true 1 FT), (1, .arr 10 [.int .u64, .int .u64, .int .u64, .int .u64, .int .u64, .int .u64, .int .u64, .int .u64, .int .u64, .int .u64] false m f)]
noncomputable def hldR (m : Nat) (f : Nat → Nat → AV) (e : Int) (FT : Nat → Nat → AV) : LR := ⟨1, .ss 3 2 0 (hlF (hM f m)).length (some (hlF (hM f m)).length), [(gnm 0, .arr tab.length (tab.map kindOfV) true 1 FT), (2, .arr 3 rSh false (hlF (hM f m)).length (rfF (hlF (hM f m)))), (1, .arr 10 [.int .u64, .int .u64, .int .u64, .int .u64, .int .u64, .int .u64, .int .u64, .int .u64, .int .u64, .int .u64] false m f)], 1, [], [FT = tabF tab, m ≤ 300, ∀ i, i < m → ∀ j, 0 ≤ avInt (f (0 + i) j) ∧ avInt (f (0 + i) j) < 18446744073709551616]⟩
noncomputable def mahH (a : Int) (b : Int) (c : Bool) (x : Int) (y : Int) (z : Int) (m : Nat) (f : Nat → Nat → AV) (e : Int) (FT : Nat → Nat → AV) : List (Nat × AO) := [(gnm 0, .arr tab.length (tab.map kindOfV) true 1 FT), (1, .arr 10 [.int .u64, .int .u64, .int .u64, .int .u64, .int .u64, .int .u64, .int .u64, .int .u64, .int .u64, .int .u64] false m f)]
noncomputable def mahR (a : Int) (b : Int) (c : Bool) (x : Int) (y : Int) (z : Int) (m : Nat) (f : Nat → Nat → AV) (e : Int) (FT : Nat → Nat → AV) : LR := ⟨1, .symb (mget (hM f m) [a, b, 0] == 0), [(gnm 0, .arr tab.length (tab.map kindOfV) true 1 FT), (1, .arr 10 [.int .u64, .int .u64, .int .u64, .int .u64, .int .u64, .int .u64, .int .u64, .int .u64, .int .u64, .int .u64] false m f)], 0, [], [FT = tabF tab, m ≤ 300, ∀ i, i < m → ∀ j, 0 ≤ avInt (f (0 + i) j) ∧ avInt (f (0 + i) j) < 18446744073709551616]⟩
end Go.Proofs.YtljeiencnpnbkaaDoor.J
