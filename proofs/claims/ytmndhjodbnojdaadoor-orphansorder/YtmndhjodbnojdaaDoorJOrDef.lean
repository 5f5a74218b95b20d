/-
  OrphansOrder: the outer loop: definitions.
-/
import Derived.Test.YtmndhjodbnojdaaDoorJOoLaw
set_option linter.unusedSimpArgs false
set_option linter.unusedVariables false
namespace Go.Proofs.YtmndhjodbnojdaaDoor
open Go.Ev

noncomputable def oplU (m : Nat) (f : Nat → Nat → AV) (p : Int) : St := ⟨[.ss 1 1 0 m none, .sym .u8 p, .top, .top, .bool false, .ptr 3 0 0, .nils, .nils, .int .i64 0] ++ List.replicate 126 .top, ⟨[(3, .cells 9 [.map 2, .int .i64 0, .int .u8 0, .int .u8 0, .int .i64 0, .int .i64 0, .int .u64 0, .int .u64 0, .bool false]), (2, .map 115 fun _ => none), (gnm 0, tabAO tab), (1, .arr 1 [.int .u8] true m f)], 4, gnm 0, [], [], [], false⟩⟩
noncomputable def oplT (m : Nat) (f : Nat → Nat → AV) (p : Int) (i : Nat) : St := ⟨[.ss 1 1 0 m none, .sym .u8 p, .top, .top, .bool false, .ptr 3 0 0, .ss 6 5 0 (owN p f i).nw none, .ss 6 4 0 (owN p f i).nn none, .sym .i64 (Int.ofNat i)] ++ List.replicate 126 .top, ⟨[(gnm 0, tabAO tab), (1, .arr 1 [.int .u8] true m f), (3, .cells 9 (.map 2 :: lsL (owN p f i).S.st (owN p f i).S.L)), (2, .map 115 (owN p f i).S.M), (4, .arr 6 [.int .i64, .int .u32, .bool, .int .u64, .int .u64, .int .u64] false (owN p f i).nn (yF (owN p f i).En)), (5, .arr 6 [.int .i64, .int .u32, .bool, .int .u64, .int .u64, .int .u64] false (owN p f i).nw (yF (owN p f i).Ew))], 6, gnm 0, [], [], [3, 2], false⟩⟩
noncomputable def oplX (m : Nat) (f : Nat → Nat → AV) (p : Int) (i : Nat) : St := ⟨[.ss 1 1 0 m none, .sym .u8 p, .top, .top, .bool false, .ptr 3 0 0, .ss 6 5 0 (owN p f i).nw none, .ss 6 4 0 (owN p f i).nn none] ++ List.replicate 127 .top, ⟨[(gnm 0, tabAO tab), (1, .arr 1 [.int .u8] true m f), (3, .cells 9 (.map 2 :: lsL (owN p f i).S.st (owN p f i).S.L)), (2, .map 115 (owN p f i).S.M), (4, .arr 6 [.int .i64, .int .u32, .bool, .int .u64, .int .u64, .int .u64] false (owN p f i).nn (yF (owN p f i).En)), (5, .arr 6 [.int .i64, .int .u32, .bool, .int .u64, .int .u64, .int .u64] false (owN p f i).nw (yF (owN p f i).Ew))], 6, gnm 0, [], [], [3, 2], false⟩⟩
noncomputable abbrev oplL : Code := loopAt Tryd.prog 7 0
noncomputable def oplLP (m : Nat) (f : Nat → Nat → AV) (p : Int) : Prop := LoopHolds Tryd.prog oplL (oplU m f p) (.exit 0) (oplX m f p m)
end Go.Proofs.YtmndhjodbnojdaaDoor
