/-
  Hazards: what is held: the loop: definitions.
-/
import Derived.Test.YtljeiencnpnbkaaDoorUJHoDef
set_option linter.unusedSimpArgs false
set_option linter.unusedVariables false
namespace Go.Proofs.YtljeiencnpnbkaaDoor.J
open Go.Ev

noncomputable def hmU (m : Nat) (f : Nat → Nat → AV) (e : Int) : St := ⟨[.top, .top, .top, .map 3, .top, .top, .top, .top, .top, .top, .top, .ss 10 1 0 m (some m), .sym .i64 (Int.ofNat m), .int .i64 0] ++ List.replicate 23 .top, ⟨[(3, .map 102 (fun _ => none)), (2, .cells 2 [.ss 10 1 0 m (some m), .sym .u64 e]), (gnm 0, tabAO tab), (1, .arr 10 [.int .u64, .int .u64, .int .u64, .int .u64, .int .u64, .int .u64, .int .u64, .int .u64, .int .u64, .int .u64] false m f)], 4, gnm 0, [], [], [], false⟩⟩
noncomputable def hmT (m : Nat) (f : Nat → Nat → AV) (e : Int) (i : Nat) : St := ⟨[.top, .top, .top, .map 3, .top, .top, .top, .top, .top, .top, .top, .ss 10 1 0 m (some m), .sym .i64 (Int.ofNat m), .sym .i64 (Int.ofNat i)] ++ List.replicate 23 .top, ⟨[(3, .map 102 (hM f i)), (gnm 0, tabAO tab), (1, .arr 10 [.int .u64, .int .u64, .int .u64, .int .u64, .int .u64, .int .u64, .int .u64, .int .u64, .int .u64, .int .u64] false m f)], 4, gnm 0, [], [], [3], false⟩⟩
noncomputable def hmX (m : Nat) (f : Nat → Nat → AV) (e : Int) (i : Nat) : St := ⟨[.top, .top, .top, .map 3, .top, .top, .top, .top, .top, .top, .top, .ss 10 1 0 m (some m), .sym .i64 (Int.ofNat m)] ++ List.replicate 24 .top, ⟨[(3, .map 102 (hM f i)), (gnm 0, tabAO tab), (1, .arr 10 [.int .u64, .int .u64, .int .u64, .int .u64, .int .u64, .int .u64, .int .u64, .int .u64, .int .u64, .int .u64] false m f)], 4, gnm 0, [], [], [3], false⟩⟩
noncomputable abbrev hmL : Code := loopAt Tryd.prog 49 0
noncomputable def hmLP (m : Nat) (f : Nat → Nat → AV) (e : Int) : Prop := LoopHolds Tryd.prog hmL (hmU m f e) (.exit 0) (hmX m f e m)
end Go.Proofs.YtljeiencnpnbkaaDoor.J
