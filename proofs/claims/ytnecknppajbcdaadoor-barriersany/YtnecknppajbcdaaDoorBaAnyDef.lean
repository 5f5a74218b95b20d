/-
  BarriersAny: definitions.
-/
import Derived.Test.YtnecknppajbcdaaDoorBaReach
set_option linter.unusedSimpArgs false
set_option linter.unusedVariables false
namespace Go.Proofs.YtnecknppajbcdaaDoor
open Go.Ev
noncomputable def anyRun (a b y : Int) (h : List Hint) : Option (AV × List Prop × Bool) := (callF EH 2000 4 [.sym .u64 a, .sym .u64 b, .sym .i8 y] ⟨tabsH [(0, tab)], 1, gnm 0, h, [], [], false⟩).map (fun x => (x.1, x.2.ob, noneIn (tabsH [(0, tab)]) x.2.wr))
end Go.Proofs.YtnecknppajbcdaaDoor
