/-
  StallsPlay: its loop: definitions.
-/
import Derived.Test.YtephpkfajobhmaaWPgDef
set_option linter.unusedSimpArgs false
set_option linter.unusedVariables false
namespace Go.Proofs.Ytephpkfajobhmaa
open Go.Ev


end Go.Proofs.Ytephpkfajobhmaa
