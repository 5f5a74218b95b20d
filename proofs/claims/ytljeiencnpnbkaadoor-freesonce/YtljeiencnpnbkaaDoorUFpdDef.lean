/-
  FreesOnce: the second loop: definitions.
-/
import Derived.Test.YtljeiencnpnbkaaDoorUFpc
set_option linter.unusedSimpArgs false
set_option linter.unusedVariables false
namespace Go.Proofs.YtljeiencnpnbkaaDoor
open Go.Ev


end Go.Proofs.YtljeiencnpnbkaaDoor
