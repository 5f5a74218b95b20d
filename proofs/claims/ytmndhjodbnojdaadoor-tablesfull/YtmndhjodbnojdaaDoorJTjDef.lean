/-
  TablesFull: the first loop: definitions.
-/
import Derived.Test.YtmndhjodbnojdaaDoorJTiDef
set_option linter.unusedSimpArgs false
set_option linter.unusedVariables false
namespace Go.Proofs.YtmndhjodbnojdaaDoor
open Go.Ev

noncomputable def tflU (m : Nat) (f : Nat → Nat → AV) (x : Int) (nn : Int) (sh : Int) (rm : Int) (S : MS) (z0 : Int) (z1 : Int) : St := ⟨[.top, .ss 1 1 0 m none, .sym .u64 x, .top, .top, .top, .top, .sym .i64 nn, .ptr 4 0 0, .sym .i64 sh, .sym .i64 rm, .xs 1 5 0 16 (some 16), .int .i64 0] ++ List.replicate 160 .top, ⟨[(5, .cells 1 [.bool false, .bool false, .bool false, .bool false, .bool false, .bool false, .bool false, .bool false, .bool false, .bool false, .bool false, .bool false, .bool false, .bool false, .bool false, .bool false]), (4, .cells 9 (.map 3 :: lsL S.st S.L)), (3, .map 115 S.M), (2, .cells 2 [.sym .u8 z0, .sym .u8 z1]), (gnm 0, tabAO tab), (1, .arr 1 [.int .u8] true m f)], 6, gnm 0, [], [], [4, 3], false⟩⟩
noncomputable def tflT (m : Nat) (f : Nat → Nat → AV) (x : Int) (nn : Int) (sh : Int) (rm : Int) (S : MS) (z0 : Int) (z1 : Int) (i : Nat) : St := ⟨[.top, .ss 1 1 0 m none, .sym .u64 x, .top, .top, .top, .top, .sym .i64 nn, .ptr 4 0 0, .sym .i64 sh, .sym .i64 rm, .ss 1 5 0 16 (some 16), .sym .i64 (Int.ofNat i)] ++ List.replicate 160 .top, ⟨[(gnm 0, tabAO tab), (1, .arr 1 [.int .u8] true m f), (4, .cells 9 (.map 3 :: lsL (fiN x S i).S.st (fiN x S i).S.L)), (3, .map 115 (fiN x S i).S.M), (5, .arr 1 [.bool] false 16 (bF (fiN x S i).sn))], 6, gnm 0, [], [], [5, 4, 3], false⟩⟩
noncomputable def tflX (m : Nat) (f : Nat → Nat → AV) (x : Int) (nn : Int) (sh : Int) (rm : Int) (S : MS) (z0 : Int) (z1 : Int) (i : Nat) : St := ⟨[.top, .ss 1 1 0 m none, .sym .u64 x, .top, .top, .top, .top, .sym .i64 nn, .ptr 4 0 0, .sym .i64 sh, .sym .i64 rm, .ss 1 5 0 16 (some 16)] ++ List.replicate 161 .top, ⟨[(gnm 0, tabAO tab), (1, .arr 1 [.int .u8] true m f), (4, .cells 9 (.map 3 :: lsL (fiN x S i).S.st (fiN x S i).S.L)), (3, .map 115 (fiN x S i).S.M), (5, .arr 1 [.bool] false 16 (bF (fiN x S i).sn))], 6, gnm 0, [], [], [5, 4, 3], false⟩⟩
noncomputable abbrev tflL : Code := loopAt Tryd.prog 5 0
noncomputable def tflLP (m : Nat) (f : Nat → Nat → AV) (x : Int) (nn : Int) (sh : Int) (rm : Int) (S : MS) (z0 : Int) (z1 : Int) : Prop := LoopHolds Tryd.prog tflL (tflU m f x nn sh rm S z0 z1) (.exit 0) (tflX m f x nn sh rm S z0 z1 rm.toNat)
end Go.Proofs.YtmndhjodbnojdaaDoor
