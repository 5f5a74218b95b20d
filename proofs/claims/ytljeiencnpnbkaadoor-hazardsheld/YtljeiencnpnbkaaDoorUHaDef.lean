/-
  HazardsHeld: the first loop: definitions.
-/
import Derived.Test.YtljeiencnpnbkaaDoorUHwDef0
set_option linter.unusedSimpArgs false
set_option linter.unusedVariables false
namespace Go.Proofs.YtljeiencnpnbkaaDoor
open Go.Ev

noncomputable def haU (m : Nat) (f : Nat → Nat → AV) (mn : Nat) (fe : Nat → Nat → AV) (L : List K2) : St := ⟨[.ss 10 1 0 m none, .ss 6 2 0 mn none, .top, .top, .top, .ptr 3 0 0, .ss 3 4 0 L.length (some L.length), .int .i64 0] ++ List.replicate 138 .top, ⟨[(3, .cells 2 [.ss 10 1 0 m none, .int .u64 0]), (gnm 0, tabAO tab), (1, .arr 10 [.int .u64, .int .u64, .int .u64, .int .u64, .int .u64, .int .u64, .int .u64, .int .u64, .int .u64, .int .u64] true m f), (2, .arr 6 [.int .i64, .int .u32, .bool, .int .u64, .int .u64, .int .u64] true mn fe), (4, .arr 3 rSh false L.length (rfF L))], 5, gnm 0, [], [], [3], false⟩⟩
noncomputable def haT (m : Nat) (f : Nat → Nat → AV) (mn : Nat) (fe : Nat → Nat → AV) (L : List K2) (i : Nat) : St := ⟨[.ss 10 1 0 m none, .ss 6 2 0 mn none, .top, .top, .top, .ptr 3 0 0, .ss 3 4 0 L.length (some L.length), .sym .i64 (Int.ofNat i)] ++ List.replicate 138 .top, ⟨[(3, .cells 2 [.ss 10 1 0 m none, .int .u64 0]), (gnm 0, tabAO tab), (1, .arr 10 [.int .u64, .int .u64, .int .u64, .int .u64, .int .u64, .int .u64, .int .u64, .int .u64, .int .u64, .int .u64] true m f), (2, .arr 6 [.int .i64, .int .u32, .bool, .int .u64, .int .u64, .int .u64] true mn fe), (4, .arr 3 rSh false L.length (rfF L))], 5, gnm 0, [], [], [3], false⟩⟩
noncomputable def haX (m : Nat) (f : Nat → Nat → AV) (mn : Nat) (fe : Nat → Nat → AV) (L : List K2) (i : Nat) : St := ⟨[.ss 10 1 0 m none, .ss 6 2 0 mn none, .top, .top, .top, .ptr 3 0 0, .ss 3 4 0 L.length (some L.length)] ++ List.replicate 139 .top, ⟨[(3, .cells 2 [.ss 10 1 0 m none, .int .u64 0]), (gnm 0, tabAO tab), (1, .arr 10 [.int .u64, .int .u64, .int .u64, .int .u64, .int .u64, .int .u64, .int .u64, .int .u64, .int .u64, .int .u64] true m f), (2, .arr 6 [.int .i64, .int .u32, .bool, .int .u64, .int .u64, .int .u64] true mn fe), (4, .arr 3 rSh false L.length (rfF L))], 5, gnm 0, [], [], [3], false⟩⟩
noncomputable abbrev haL : Code := loopAt Tryd.prog 4 0
noncomputable def haLP (m : Nat) (f : Nat → Nat → AV) (mn : Nat) (fe : Nat → Nat → AV) (L : List K2) : Prop := LoopHolds Tryd.prog haL (haU m f mn fe L) (.exit 0) (haX m f mn fe L L.length)
end Go.Proofs.YtljeiencnpnbkaaDoor
