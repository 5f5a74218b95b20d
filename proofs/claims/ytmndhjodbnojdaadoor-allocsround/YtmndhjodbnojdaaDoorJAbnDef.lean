/-
  Begin: its contract: definitions.
-/
import Derived.Test.YtmndhjodbnojdaaDoorJAbo
import Derived.Test.YtmndhjodbnojdaaDoorEvHide
set_option linter.unusedSimpArgs false
set_option linter.unusedVariables false
namespace Go.Proofs.YtmndhjodbnojdaaDoor
open Go.Ev

noncomputable def bmX : Int → MS := hide (fun a => bgN a.toNat)
theorem bmX_eq (a : Int) : bmX a = bgN a.toNat := congrFun (hide_eq (fun (a : Int) => bgN a.toNat)) a

noncomputable def bgnH (a : Int) (FT : Nat → Nat → AV) : List (Nat × AO) := [(gnm 0, .arr tab.length (tab.map kindOfV) true 1 FT)]
noncomputable def bgnR (a : Int) (FT : Nat → Nat → AV) : LR := ⟨0, .tup [.ptr 1 0 0, .symb true], [(gnm 0, .arr tab.length (tab.map kindOfV) true 1 FT), (1, .cells 9 (.map 2 :: lsL (bmX a).st (bmX a).L)), (2, .map 115 (bmX a).M)], 2, [], [FT = tabF tab, 0 ≤ a, a ≤ 32]⟩
end Go.Proofs.YtmndhjodbnojdaaDoor
