/-
  OrphansOrder: definitions.
-/
import Derived.Test.YtmndhjodbnojdaaDoorJPw
import Derived.Test.YtmndhjodbnojdaaDoorJSame
set_option linter.unusedSimpArgs false
set_option linter.unusedVariables false
namespace Go.Proofs.YtmndhjodbnojdaaDoor
open Go.Ev
noncomputable def EOo : Env := envG Tryd.prog [(40, locSP ofcSpec), (41, locSP gncSpec), (42, takSP), (43, locSP sameSpec)]
theorem EOo_ok : EnvOk EOo := envG_ok mgood ⟨locSP_ok ofcSpec_ok, locSP_ok gncSpec_ok, takSP_ok, locSP_ok sameSpec_ok, trivial⟩
end Go.Proofs.YtmndhjodbnojdaaDoor
