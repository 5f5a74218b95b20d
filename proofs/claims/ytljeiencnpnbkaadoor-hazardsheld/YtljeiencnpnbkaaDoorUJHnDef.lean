/-
  Hazards: the words of one thread: definitions.
-/
import Derived.Test.YtljeiencnpnbkaaDoorUJHnDef0
set_option linter.unusedSimpArgs false
set_option linter.unusedVariables false
namespace Go.Proofs.YtljeiencnpnbkaaDoor.J
open Go.Ev


end Go.Proofs.YtljeiencnpnbkaaDoor.J
