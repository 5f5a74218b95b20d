/-
  joinedOver: its contract: definitions.
-/
import Derived.Test.YtmndhjodbnojdaaDoorJTh0
set_option linter.unusedSimpArgs false
set_option linter.unusedVariables false
namespace Go.Proofs.YtmndhjodbnojdaaDoor
open Go.Ev

noncomputable def jv1H (o : Int) (x : Int) (S : MS) (FT : Nat → Nat → AV) : List (Nat × AO) := [(gnm 0, .arr tab.length (tab.map kindOfV) true 1 FT), (1, .cells 9 (.map 2 :: lsL S.st S.L)), (2, .map 115 S.M)]
noncomputable def jv1R (o : Int) (x : Int) (S : MS) (FT : Nat → Nat → AV) : LR := ⟨2, .tup [.sym .i64 (jdG (ovN x S 16) o), .sym .i64 (jdE (ovN x S 16) o), .sym .i64 (Int.ofNat (jdK (ovN x S 16) o))], [(gnm 0, .arr tab.length (tab.map kindOfV) true 1 FT), (1, .cells 9 (.map 2 :: lsL (jdY (ovN x S 16) o).st (jdY (ovN x S 16) o).L)), (2, .map 115 (jdY (ovN x S 16) o).M)], 0, [1, 2], [FT = tabF tab, U64 S, R64 x, JdOk (ovN x S 16) o]⟩
end Go.Proofs.YtmndhjodbnojdaaDoor
