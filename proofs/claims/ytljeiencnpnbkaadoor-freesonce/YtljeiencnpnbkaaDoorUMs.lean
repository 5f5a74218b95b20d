/-
  The program's memory alone.
-/
import Derived.Test.YtljeiencnpnbkaaDoorUMemOps
import Derived.Test.YtljeiencnpnbkaaDoorEvLoc2
set_option linter.unusedSimpArgs false
set_option linter.unusedVariables false
namespace Go.Proofs.YtljeiencnpnbkaaDoor
open Go Go.Ev
noncomputable def memSP : List (FuncId × SP) := [(16, locSP mstSpec), (33, locSP mldSpec), (180, locSP mcsSpec), (117, locSP mmaySpec)]
theorem memSP_ok : SPsOk Tryd.prog memSP := ⟨locSP_ok mstSpec_ok, locSP_ok mldSpec_ok, locSP_ok mcsSpec_ok, locSP_ok mmaySpec_ok, trivial⟩
def lsL (st : Int) (x : LS) : List AV := .sym .i64 st :: x.l
end Go.Proofs.YtljeiencnpnbkaaDoor
