/-
  The table of the fields that a barrier looks at.
-/
import Derived.Test.YtmlfmmnnbdlabaaDoorEvDoor
import Derived.Test.YtmlfmmnnbdlabaaDoorQMemDef
set_option linter.unusedSimpArgs false
set_option linter.unusedVariables false
namespace Go.Proofs.YtmlfmmnnbdlabaaDoor
open Go.Ev
def tab : List Value := [.int .i64 0, .int .i64 1, .int .i64 2, .int .i64 6]
end Go.Proofs.YtmlfmmnnbdlabaaDoor
