/-
  FreesOnce: filled, its loop: definitions.
-/
import Derived.Test.YtljeiencnpnbkaaDoorUFoLaw
set_option linter.unusedSimpArgs false
set_option linter.unusedVariables false
namespace Go.Proofs.YtljeiencnpnbkaaDoor
open Go.Ev

noncomputable def folU (n : Nat) : St := ⟨[.sym .i64 (Int.ofNat n), .top, .top, .top, .ptr 2 0 0, .int .i64 0] ++ List.replicate 21 .top, ⟨[(2, .cells 9 [.map 1, .int .i64 0, .int .u8 0, .int .u8 0, .int .i64 0, .int .i64 0, .int .u64 0, .int .u64 0, .bool false]), (1, .map 110 fun _ => none), (gnm 0, tabAO tab)], 3, gnm 0, [], [], [], false⟩⟩
noncomputable def folT (n : Nat) (i : Nat) : St := ⟨[.sym .i64 (Int.ofNat n), .top, .top, .top, .ptr 2 0 0, .sym .i64 (Int.ofNat i)] ++ List.replicate 21 .top, ⟨[(gnm 0, tabAO tab), (2, .cells 9 (.map 1 :: lsL (fillS i).st (fillS i).L)), (1, .map 110 (fillS i).M)], 3, gnm 0, [], [], [2, 1], false⟩⟩
noncomputable def folX (n : Nat) (i : Nat) : St := ⟨[.sym .i64 (Int.ofNat n), .top, .top, .top, .ptr 2 0 0] ++ List.replicate 22 .top, ⟨[(gnm 0, tabAO tab), (2, .cells 9 (.map 1 :: lsL (fillS i).st (fillS i).L)), (1, .map 110 (fillS i).M)], 3, gnm 0, [], [], [2, 1], false⟩⟩
noncomputable abbrev folL : Code := loopAt Tryd.prog 42 0
noncomputable def folLP (n : Nat) : Prop := LoopHolds Tryd.prog folL (folU n) (.exit 0) (folX n n)
end Go.Proofs.YtljeiencnpnbkaaDoor
