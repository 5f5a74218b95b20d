/-
  SnapsMoved: the comparison: definitions.
-/
import Derived.Test.YtmlfmmnnbdlabaaNSd
set_option linter.unusedSimpArgs false
set_option linter.unusedVariables false
namespace Go.Proofs.Ytmlfmmnnbdlabaa
open Go.Ev


end Go.Proofs.Ytmlfmmnnbdlabaa
