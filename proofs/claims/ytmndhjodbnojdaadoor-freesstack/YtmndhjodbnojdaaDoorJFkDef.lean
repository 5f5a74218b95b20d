/-
  FreesStack: definitions.
-/
import Derived.Test.YtmndhjodbnojdaaDoorJSkLaw
import Derived.Test.YtmndhjodbnojdaaDoorJFt
set_option linter.unusedSimpArgs false
set_option linter.unusedVariables false
namespace Go.Proofs.YtmndhjodbnojdaaDoor
open Go.Ev
noncomputable def EFk : Env := envG Tryd.prog ([(13, locSP pshSpec), (15, locSP popSpec), (17, tabSP 0 tab ashS)] ++ memSP)
theorem EFk_ok : EnvOk EFk := envG_ok mgood ⟨locSP_ok pshSpec_ok, locSP_ok popSpec_ok, tabSP_ok rfl ashS_ok, memSP_ok⟩
/-- A list of numbers, as cells. -/
noncomputable def LI : List Int → Nat → Int := hide (fun L j => L.getD j 0)
theorem LI_def (L : List Int) (j : Nat) : LI L j = L.getD j 0 := congrFun (congrFun (hide_eq (fun (L : List Int) (j : Nat) => L.getD j 0)) L) j
def LF (E : Nat → Int) : Nat → Nat → AV := fun j _ => .sym .i64 (E j)
def hadB (E : Nat → Int) (x : Int) : Nat → Bool
  | 0 => false
  | k + 1 => match hadB E x k with
    | true => true
    | false => E (0 + k) == x
/-- Those of l that were not there, in their order. -/
noncomputable def ddN (f : Nat → Nat → AV) : Nat → List Int
  | 0 => []
  | i + 1 => match hadB (LI (ddN f i)) (IntKind.i64.wrap (avInt (f (0 + i) 0))) (ddN f i).length with
    | true => ddN f i
    | false => ddN f i ++ [IntKind.i64.wrap (avInt (f (0 + i) 0))]
end Go.Proofs.YtmndhjodbnojdaaDoor
