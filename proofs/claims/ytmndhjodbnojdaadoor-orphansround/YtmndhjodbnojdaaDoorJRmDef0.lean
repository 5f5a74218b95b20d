/-
  OrphansRound: the main loop: definitions.
-/
import Derived.Test.YtmndhjodbnojdaaDoorJRc
import Derived.Test.YtmndhjodbnojdaaDoorJRs
set_option linter.unusedSimpArgs false
set_option linter.unusedVariables false
namespace Go.Proofs.YtmndhjodbnojdaaDoor
open Go.Ev
/-- A step of both, and the memories. -/
noncomputable def orS0 (m : Nat) (f : Nat → Nat → AV) : MS := mStore (orS m f m) 4 0 0 (IntKind.u64.wrap (IntKind.u64.wrap (avInt (f (0 + (0 : Int).toNat) 0)) + 1))
noncomputable def orR0 (m : Nat) (f : Nat → Nat → AV) : RS := rStore (orR m f m) 4 0 0 (IntKind.u64.wrap (IntKind.u64.wrap (avInt (f (0 + (0 : Int).toNat) 0)) + 1))
noncomputable def EOm : Env := envG Tryd.prog ([(44, locSP pstSpec), (37, locSP teSpec), (96, locSP rksSpec), (48, locSP smeSpec), (43, locSP sameSpec), (97, locSP spoSpec)] ++ memSP)
theorem EOm_ok : EnvOk EOm := envG_ok mgood ⟨locSP_ok pstSpec_ok, locSP_ok teSpec_ok, locSP_ok rksSpec_ok, locSP_ok smeSpec_ok, locSP_ok sameSpec_ok, locSP_ok spoSpec_ok, memSP_ok⟩
end Go.Proofs.YtmndhjodbnojdaaDoor
