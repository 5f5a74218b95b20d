/-
  Same of a pair: definitions.
-/
import Derived.Test.YtmlfmmnnbdlabaaDoorQBeg
import Derived.Test.YtmlfmmnnbdlabaaDoorQPair
import Derived.Test.YtmlfmmnnbdlabaaDoorEvWords
import Derived.Test.YtmlfmmnnbdlabaaDoorEvDoor
set_option linter.unusedSimpArgs false
set_option linter.unusedVariables false
namespace Go.Proofs.YtmlfmmnnbdlabaaDoor
open Go.Ev

noncomputable def smeH (S : MS) (n l : Nat) (g : Nat → Nat → AV) (s2 : Int) (L2 : LS) : List (Nat × AO) := [(1, .cells 9 (.map 2 :: lsL S.st S.L)), (2, .map 76 S.M), (3, .cells 9 (.ss 4 4 0 n none :: lsL s2 L2)), (4, .arr 4 wSh false l g)]
noncomputable def smeR (S : MS) (n l : Nat) (g : Nat → Nat → AV) (s2 : Int) (L2 : LS) : LR := ⟨4, .bool true, [(1, .cells 9 (.map 2 :: lsL S.st S.L)), (2, .map 76 S.M), (3, .cells 9 (.ss 4 4 0 n none :: lsL s2 L2)), (4, .arr 4 wSh false l g)], 0, [], [Both S (mkR n g s2 L2)]⟩
end Go.Proofs.YtmlfmmnnbdlabaaDoor
