/-
  EpochsFree: its loop: definitions.
-/
import Derived.Test.YtmhjecenmgbpeaaMEfLaw
set_option linter.unusedSimpArgs false
set_option linter.unusedVariables false
namespace Go.Proofs.Ytmhjecenmgbpeaa
open Go.Ev
noncomputable def EF0 : Env := envG Try.prog ((19, locSP mvdSpec) :: memSpecs)
theorem EF0_ok : EnvOk EF0 := envG_ok mgood ⟨locSP_ok mvdSpec_ok, memSpecs_ok⟩

noncomputable def eflU (epoch who : Int) (n : Nat) (Z : Nat → MS) : St := ⟨[.sym .u64 epoch, .top, .sym .u8 who, .top, .top, .top, .top, .ptr 2 0 0, .sym .u64 (Int.ofNat n), .int .u64 0] ++ List.replicate 126 .top, ⟨[(2, .cells 9 (.map 1 :: .sym .i64 (Z (0)).st :: (Z (0)).L.l)), (1, .map 110 (Z (0)).M)], 3, gnm 0, [], [], [2, 1], false⟩⟩
noncomputable def eflT (epoch who : Int) (n : Nat) (Z : Nat → MS) (i : Nat) : St := ⟨[.sym .u64 epoch, .top, .sym .u8 who, .top, .top, .top, .top, .ptr 2 0 0, .sym .u64 (Int.ofNat n), .sym .u64 (Int.ofNat i)] ++ List.replicate 126 .top, ⟨[(2, .cells 9 (.map 1 :: .sym .i64 (Z (i)).st :: (Z (i)).L.l)), (1, .map 110 (Z (i)).M)], 3, gnm 0, [], [], [2, 1], false⟩⟩
noncomputable def eflX (epoch who : Int) (n : Nat) (Z : Nat → MS) (i : Nat) : St := ⟨[.sym .u64 epoch, .top, .sym .u8 who, .top, .top, .top, .top, .ptr 2 0 0, .sym .u64 (Int.ofNat n)] ++ List.replicate 127 .top, ⟨[(2, .cells 9 (.map 1 :: .sym .i64 (Z (i)).st :: (Z (i)).L.l)), (1, .map 110 (Z (i)).M)], 3, gnm 0, [], [], [2, 1], false⟩⟩
noncomputable abbrev eflL : Code := loopAt Try.prog 4 0
noncomputable def eflLP (epoch who : Int) (n : Nat) (Z : Nat → MS) : Prop := LoopHolds Try.prog eflL (eflU epoch who n Z) (.exit 0) (eflX epoch who n Z n)
end Go.Proofs.Ytmhjecenmgbpeaa
