/-
  AllocsRound: definitions.
-/
import Derived.Test.YtmndhjodbnojdaaDoorJAmd
set_option linter.unusedSimpArgs false
set_option linter.unusedVariables false
namespace Go.Proofs.YtmndhjodbnojdaaDoor
open Go.Ev
noncomputable def EAr : Env := envG Tryd.prog ([(49, locSP bgnSpec), (50, madeSP), (13, locSP pshSpec), (108, tabSP 0 tab ahrS), (94, tabSP 0 tab hdrS)] ++ memSP)
theorem EAr_ok : EnvOk EAr := envG_ok mgood ⟨locSP_ok bgnSpec_ok, madeSP_ok, locSP_ok pshSpec_ok, tabSP_ok rfl ahrS_ok, tabSP_ok rfl hdrS_ok, memSP_ok⟩
end Go.Proofs.YtmndhjodbnojdaaDoor
