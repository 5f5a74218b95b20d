/-
  HazardsHeld: the second loop: definitions.
-/
import Derived.Test.YtljeiencnpnbkaaDoorUHb
set_option linter.unusedSimpArgs false
set_option linter.unusedVariables false
namespace Go.Proofs.YtljeiencnpnbkaaDoor
open Go.Ev

noncomputable def hcU (m : Nat) (f : Nat → Nat → AV) (mn : Nat) (fe : Nat → Nat → AV) (L : List K2) : St := ⟨[.ss 10 1 0 m none, .ss 6 2 0 mn none, .top, .top, .top, .ptr 3 0 0, .ss 3 4 0 L.length (some L.length), .top, .int .i64 0] ++ List.replicate 137 .top, ⟨[(3, .cells 2 [.ss 10 1 0 m none, .int .u64 0]), (gnm 0, tabAO tab), (1, .arr 10 [.int .u64, .int .u64, .int .u64, .int .u64, .int .u64, .int .u64, .int .u64, .int .u64, .int .u64, .int .u64] true m f), (2, .arr 6 [.int .i64, .int .u32, .bool, .int .u64, .int .u64, .int .u64] true mn fe), (4, .arr 3 rSh false L.length (rfF L))], 5, gnm 0, [], [], [3], false⟩⟩
noncomputable def hcT (m : Nat) (f : Nat → Nat → AV) (mn : Nat) (fe : Nat → Nat → AV) (L : List K2) (i : Nat) : St := ⟨[.ss 10 1 0 m none, .ss 6 2 0 mn none, .top, .top, .top, .ptr 3 0 0, .ss 3 4 0 L.length (some L.length), .top, .sym .i64 (Int.ofNat i)] ++ List.replicate 137 .top, ⟨[(3, .cells 2 [.ss 10 1 0 m none, .int .u64 0]), (gnm 0, tabAO tab), (1, .arr 10 [.int .u64, .int .u64, .int .u64, .int .u64, .int .u64, .int .u64, .int .u64, .int .u64, .int .u64, .int .u64] true m f), (2, .arr 6 [.int .i64, .int .u32, .bool, .int .u64, .int .u64, .int .u64] true mn fe), (4, .arr 3 rSh false L.length (rfF L))], 5, gnm 0, [], [], [3], false⟩⟩
noncomputable def hcX (m : Nat) (f : Nat → Nat → AV) (mn : Nat) (fe : Nat → Nat → AV) (L : List K2) (i : Nat) : St := ⟨[.ss 10 1 0 m none, .ss 6 2 0 mn none, .top, .top, .top, .ptr 3 0 0, .ss 3 4 0 L.length (some L.length)] ++ List.replicate 139 .top, ⟨[(3, .cells 2 [.ss 10 1 0 m none, .int .u64 0]), (gnm 0, tabAO tab), (1, .arr 10 [.int .u64, .int .u64, .int .u64, .int .u64, .int .u64, .int .u64, .int .u64, .int .u64, .int .u64, .int .u64] true m f), (2, .arr 6 [.int .i64, .int .u32, .bool, .int .u64, .int .u64, .int .u64] true mn fe), (4, .arr 3 rSh false L.length (rfF L))], 5, gnm 0, [], [], [3], false⟩⟩
noncomputable abbrev hcL : Code := loopAt Tryd.prog 4 1
noncomputable def hcLP (m : Nat) (f : Nat → Nat → AV) (mn : Nat) (fe : Nat → Nat → AV) (L : List K2) : Prop := LoopHolds Tryd.prog hcL (hcU m f mn fe L) (.exit 2) (hcX m f mn fe L mn)
end Go.Proofs.YtljeiencnpnbkaaDoor
