/-
  The table of the words' fields.
-/
import Derived.Test.YtmndhjodbnojdaaDoorEvLoop
import Derived.Test.YtmndhjodbnojdaaDoorJMemDef
set_option linter.unusedSimpArgs false
set_option linter.unusedVariables false
namespace Go.Proofs.YtmndhjodbnojdaaDoor
open Go.Ev
def tab : List Value := [.int .u64 0, .int .u64 16, .int .u64 16, .int .u64 32, .int .u64 16, .int .u64 48, .int .u64 0, .int .u64 3, .int .u64 3, .int .u64 32, .int .u64 0, .int .u64 3, .int .u64 3, .int .u64 3, .int .u64 6, .int .u64 3, .int .u64 16, .int .u64 48, .int .u64 0, .int .u64 32, .int .u64 32, .int .u64 1]
end Go.Proofs.YtmndhjodbnojdaaDoor
