/-
  ErasPlay: steps: begun: definitions.
-/
import Derived.Test.YtephpkfajobhmaaWBeg
import Derived.Test.YtephpkfajobhmaaWPair
import Derived.Test.YtephpkfajobhmaaEvWords
set_option linter.unusedSimpArgs false
set_option linter.unusedVariables false
namespace Go.Proofs.Ytephpkfajobhmaa
open Go.Ev
noncomputable def EEr : Env := envG Try.prog memSP
theorem EEr_ok : EnvOk EEr := envG_ok mgood memSP_ok


end Go.Proofs.Ytephpkfajobhmaa
