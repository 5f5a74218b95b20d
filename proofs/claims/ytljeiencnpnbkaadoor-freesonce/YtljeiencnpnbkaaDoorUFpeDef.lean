/-
  FreesOnce: the list, and what is held: definitions.
-/
import Derived.Test.YtljeiencnpnbkaaDoorUFpeDef0
set_option linter.unusedSimpArgs false
set_option linter.unusedVariables false
namespace Go.Proofs.YtljeiencnpnbkaaDoor
open Go.Ev


end Go.Proofs.YtljeiencnpnbkaaDoor
