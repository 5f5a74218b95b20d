/-
  HazardsHeld: is it among them?: definitions.
-/
import Derived.Test.YtljeiencnpnbkaaDoorUHwDef0
set_option linter.unusedSimpArgs false
set_option linter.unusedVariables false
namespace Go.Proofs.YtljeiencnpnbkaaDoor
open Go.Ev

noncomputable def hbU (m : Nat) (f : Nat → Nat → AV) (mn : Nat) (fe : Nat → Nat → AV) (L : List K2) (i0 : Nat) : St := ⟨[.ss 10 1 0 m none, .ss 6 2 0 mn none, .top, .top, .top, .ptr 3 0 0, .ss 3 4 0 L.length (some L.length), .top, .sym .i64 (Int.ofNat i0), .bool false, .int .i64 0] ++ List.replicate 135 .top, ⟨[(3, .cells 2 [.ss 10 1 0 m none, .int .u64 0]), (gnm 0, tabAO tab), (1, .arr 10 [.int .u64, .int .u64, .int .u64, .int .u64, .int .u64, .int .u64, .int .u64, .int .u64, .int .u64, .int .u64] true m f), (2, .arr 6 [.int .i64, .int .u32, .bool, .int .u64, .int .u64, .int .u64] true mn fe), (4, .arr 3 rSh false L.length (rfF L))], 5, gnm 0, [], [], [3], false⟩⟩
noncomputable def hbT (m : Nat) (f : Nat → Nat → AV) (mn : Nat) (fe : Nat → Nat → AV) (L : List K2) (i0 : Nat) (i : Nat) : St := ⟨[.ss 10 1 0 m none, .ss 6 2 0 mn none, .top, .top, .top, .ptr 3 0 0, .ss 3 4 0 L.length (some L.length), .top, .sym .i64 (Int.ofNat i0), .symb (isF L (avInt (fe (0 + i0) 0)) (avInt (fe (0 + i0) 1)) i), .sym .i64 (Int.ofNat i)] ++ List.replicate 135 .top, ⟨[(3, .cells 2 [.ss 10 1 0 m none, .int .u64 0]), (gnm 0, tabAO tab), (1, .arr 10 [.int .u64, .int .u64, .int .u64, .int .u64, .int .u64, .int .u64, .int .u64, .int .u64, .int .u64, .int .u64] true m f), (2, .arr 6 [.int .i64, .int .u32, .bool, .int .u64, .int .u64, .int .u64] true mn fe), (4, .arr 3 rSh false L.length (rfF L))], 5, gnm 0, [], [], [3], false⟩⟩
noncomputable def hbX (m : Nat) (f : Nat → Nat → AV) (mn : Nat) (fe : Nat → Nat → AV) (L : List K2) (i0 : Nat) (i : Nat) : St := ⟨[.ss 10 1 0 m none, .ss 6 2 0 mn none, .top, .top, .top, .ptr 3 0 0, .ss 3 4 0 L.length (some L.length), .top, .sym .i64 (Int.ofNat i0), .symb (isF L (avInt (fe (0 + i0) 0)) (avInt (fe (0 + i0) 1)) i)] ++ List.replicate 136 .top, ⟨[(3, .cells 2 [.ss 10 1 0 m none, .int .u64 0]), (gnm 0, tabAO tab), (1, .arr 10 [.int .u64, .int .u64, .int .u64, .int .u64, .int .u64, .int .u64, .int .u64, .int .u64, .int .u64, .int .u64] true m f), (2, .arr 6 [.int .i64, .int .u32, .bool, .int .u64, .int .u64, .int .u64] true mn fe), (4, .arr 3 rSh false L.length (rfF L))], 5, gnm 0, [], [], [3], false⟩⟩
noncomputable abbrev hbL : Code := loopAt Tryd.prog 4 2
noncomputable def hbLP (m : Nat) (f : Nat → Nat → AV) (mn : Nat) (fe : Nat → Nat → AV) (L : List K2) (i0 : Nat) : Prop := LoopHolds Tryd.prog hbL (hbU m f mn fe L i0) (.exit 4) (hbX m f mn fe L i0 L.length)
end Go.Proofs.YtljeiencnpnbkaaDoor
