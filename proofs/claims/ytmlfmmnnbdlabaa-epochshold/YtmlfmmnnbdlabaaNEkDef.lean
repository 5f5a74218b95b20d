/-
  EpochsHold: the look at all threads: definitions.
-/
import Derived.Test.YtmlfmmnnbdlabaaNEhDef
set_option linter.unusedSimpArgs false
set_option linter.unusedVariables false
namespace Go.Proofs.Ytmlfmmnnbdlabaa
open Go.Ev

noncomputable def hkU (m : Nat) (f : Nat → Nat → AV) (S : MS) (G : Nat → Nat → AV) (w : Int) (z : Nat) : St := ⟨[.top, .ss 1 1 0 m none, .top, .top, .top, .ptr 3 0 0, .ss 5 5 0 8 (some 8), .top, .sym .i64 (Int.ofNat z), .sym .u64 w, .int .i64 0] ++ List.replicate 97 .top, ⟨[(5, .arr 5 hdSh false 8 G), (3, .cells 9 (.map 2 :: .sym .i64 S.st :: S.L.l)), (2, .map 128 S.M), (1, .arr 1 [.int .u8] true m f)], 1000, fam0, [], [], [4, 3, 2], false⟩⟩
noncomputable def hkT (m : Nat) (f : Nat → Nat → AV) (S : MS) (G : Nat → Nat → AV) (w : Int) (z : Nat) (i : Nat) : St := ⟨[.top, .ss 1 1 0 m none, .top, .top, .top, .ptr 3 0 0, .ss 5 5 0 8 (some 8), .top, .sym .i64 (Int.ofNat z), .sym .u64 w, .sym .i64 (Int.ofNat i)] ++ List.replicate 97 .top, ⟨[(5, .arr 5 hdSh false 8 G), (3, .cells 9 (.map 2 :: .sym .i64 S.st :: S.L.l)), (2, .map 128 S.M), (1, .arr 1 [.int .u8] true m f)], 1000, fam0, [], [], [4, 3, 2], false⟩⟩
noncomputable def hkX (m : Nat) (f : Nat → Nat → AV) (S : MS) (G : Nat → Nat → AV) (w : Int) (z : Nat) (i : Nat) : St := ⟨[.top, .ss 1 1 0 m none, .top, .top, .top, .ptr 3 0 0, .ss 5 5 0 8 (some 8), .top, .sym .i64 (Int.ofNat z), .sym .u64 w] ++ List.replicate 98 .top, ⟨[(5, .arr 5 hdSh false 8 G), (3, .cells 9 (.map 2 :: .sym .i64 S.st :: S.L.l)), (2, .map 128 S.M), (1, .arr 1 [.int .u8] true m f)], 1000, fam0, [], [], [4, 3, 2], false⟩⟩
noncomputable abbrev hkL : Code := loopAt Try.prog 5 1
noncomputable def hkLP (m : Nat) (f : Nat → Nat → AV) (S : MS) (G : Nat → Nat → AV) (w : Int) (z : Nat) : Prop := LoopHolds Try.prog hkL (hkU m f S G w z) (.exit 2) (hkX m f S G w z 8)
end Go.Proofs.Ytmlfmmnnbdlabaa
