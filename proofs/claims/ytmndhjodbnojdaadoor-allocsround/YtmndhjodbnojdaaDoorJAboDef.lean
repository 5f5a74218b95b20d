/-
  Begin: the outer loop: definitions.
-/
import Derived.Test.YtmndhjodbnojdaaDoorJAbk
set_option linter.unusedSimpArgs false
set_option linter.unusedVariables false
namespace Go.Proofs.YtmndhjodbnojdaaDoor
open Go.Ev

noncomputable def aboU (a : Int) : St := ⟨[.sym .i64 a, .top, .nilp, .bool false, .ptr 2 0 0, .int .i64 0] ++ List.replicate 37 .top, ⟨[(2, .cells 9 [.map 1, .int .i64 0, .int .u8 0, .int .u8 0, .int .i64 0, .int .i64 0, .int .u64 0, .int .u64 0, .bool false]), (1, .map 115 fun _ => none), (gnm 0, tabAO tab)], 3, gnm 0, [], [], [], false⟩⟩
noncomputable def aboT (a : Int) (i : Nat) : St := ⟨[.sym .i64 a, .top, .nilp, .bool false, .ptr 2 0 0, .sym .i64 (Int.ofNat i)] ++ List.replicate 37 .top, ⟨[(gnm 0, tabAO tab), (2, .cells 9 (.map 1 :: lsL (bgN i).st (bgN i).L)), (1, .map 115 (bgN i).M)], 3, gnm 0, [], [], [2, 1], false⟩⟩
noncomputable def aboX (a : Int) (i : Nat) : St := ⟨[.sym .i64 a, .top, .nilp, .bool false, .ptr 2 0 0] ++ List.replicate 38 .top, ⟨[(gnm 0, tabAO tab), (2, .cells 9 (.map 1 :: lsL (bgN i).st (bgN i).L)), (1, .map 115 (bgN i).M)], 3, gnm 0, [], [], [2, 1], false⟩⟩
noncomputable abbrev aboL : Code := loopAt Tryd.prog 49 0
noncomputable def aboLP (a : Int) : Prop := LoopHolds Tryd.prog aboL (aboU a) (.exit 0) (aboX a a.toNat)
end Go.Proofs.YtmndhjodbnojdaaDoor
