/-
  TablesFull: the second loop: definitions.
-/
import Derived.Test.YtmndhjodbnojdaaDoorJTj
set_option linter.unusedSimpArgs false
set_option linter.unusedVariables false
namespace Go.Proofs.YtmndhjodbnojdaaDoor
open Go.Ev

noncomputable def tqlU (m : Nat) (f : Nat → Nat → AV) (nn : Int) (sh : Int) (sn : Nat → Bool) (S : MS) : St := ⟨[.top, .ss 1 1 0 m none, .top, .top, .top, .top, .top, .sym .i64 nn, .ptr 4 0 0, .top, .top, .ss 1 5 0 16 (some 16), .top, .top, .top, .top, .top, .top, .top, .top, .int .i64 0] ++ List.replicate 152 .top, ⟨[(gnm 0, tabAO tab), (1, .arr 1 [.int .u8] true m f), (4, .cells 9 (.map 3 :: lsL S.st S.L)), (3, .map 115 S.M), (5, .arr 1 [.bool] false 16 (bF sn))], 6, gnm 0, [], [], [5, 4, 3], false⟩⟩
noncomputable def tqlT (m : Nat) (f : Nat → Nat → AV) (nn : Int) (sh : Int) (sn : Nat → Bool) (S : MS) (i : Nat) : St := ⟨[.top, .ss 1 1 0 m none, .top, .top, .top, .top, .top, .sym .i64 nn, .ptr 4 0 0, .top, .top, .ss 1 5 0 16 (some 16), .top, .top, .top, .top, .top, .top, .top, .top, .sym .i64 (Int.ofNat i)] ++ List.replicate 152 .top, ⟨[(gnm 0, tabAO tab), (1, .arr 1 [.int .u8] true m f), (4, .cells 9 (.map 3 :: lsL (lqN f nn sn S i).st (lqN f nn sn S i).L)), (3, .map 115 (lqN f nn sn S i).M), (5, .arr 1 [.bool] false 16 (bF sn))], 6, gnm 0, [], [], [5, 4, 3], false⟩⟩
noncomputable def tqlX (m : Nat) (f : Nat → Nat → AV) (nn : Int) (sh : Int) (sn : Nat → Bool) (S : MS) (i : Nat) : St := ⟨[.top, .ss 1 1 0 m none, .top, .top, .top, .top, .top, .sym .i64 nn, .ptr 4 0 0, .top, .top, .ss 1 5 0 16 (some 16)] ++ List.replicate 161 .top, ⟨[(gnm 0, tabAO tab), (1, .arr 1 [.int .u8] true m f), (4, .cells 9 (.map 3 :: lsL (lqN f nn sn S i).st (lqN f nn sn S i).L)), (3, .map 115 (lqN f nn sn S i).M), (5, .arr 1 [.bool] false 16 (bF sn))], 6, gnm 0, [], [], [5, 4, 3], false⟩⟩
noncomputable abbrev tqlL : Code := loopAt Tryd.prog 5 2
noncomputable def tqlLP (m : Nat) (f : Nat → Nat → AV) (nn : Int) (sh : Int) (sn : Nat → Bool) (S : MS) : Prop := LoopHolds Tryd.prog tqlL (tqlU m f nn sh sn S) (.exit 4) (tqlX m f nn sh sn S m)
end Go.Proofs.YtmndhjodbnojdaaDoor
