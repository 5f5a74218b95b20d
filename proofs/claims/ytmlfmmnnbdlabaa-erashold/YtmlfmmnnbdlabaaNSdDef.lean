/-
  SnapsMoved: the comparison of one thread: definitions.
-/
import Derived.Test.YtmlfmmnnbdlabaaNScDef
set_option linter.unusedSimpArgs false
set_option linter.unusedVariables false
namespace Go.Proofs.Ytmlfmmnnbdlabaa
open Go.Ev

noncomputable def sdU (n al : Nat) (g F G : Nat → Nat → AV) (w who fd wh ta fl : Int) (m : MS) (i : Nat) : St := ⟨[.top, .top, .top, .ss 10 1 0 n none, .sym .u64 w, .top, .top, .top, .sym .i64 who, .sym .i64 fd, .sym .i64 wh, .top, .top, .ptr 11 0 0, .sym .i64 (Int.ofNat i), .int .i64 0] ++ List.replicate 136 .top, ⟨[(11, .cells 2 [.ss 10 10 0 (al - 0) (some (al - 0)), .sym .u64 0]), (10, .arr 10 tSh false al G), (1, .arr 10 tSh true n g)], 12, gnm 0, [], [], [11, 7, 8, 6, 5, 4, 3], false⟩⟩
noncomputable def sdT (n al : Nat) (g F G : Nat → Nat → AV) (w who fd wh ta fl : Int) (m : MS) (i : Nat) (j : Nat) : St := ⟨[.top, .top, .top, .ss 10 1 0 n none, .sym .u64 w, .top, .top, .top, .sym .i64 who, .sym .i64 fd, .sym .i64 wh, .top, .top, .ptr 11 0 0, .sym .i64 (Int.ofNat i), .sym .i64 (Int.ofNat j)] ++ List.replicate 136 .top, ⟨[(11, .cells 2 [.ss 10 10 0 (al - 0) (some (al - 0)), .sym .u64 0]), (10, .arr 10 tSh false al G), (1, .arr 10 tSh true n g)], 12, gnm 0, [], [], [11, 7, 8, 6, 5, 4, 3], false⟩⟩
noncomputable def sdX (n al : Nat) (g F G : Nat → Nat → AV) (w who fd wh ta fl : Int) (m : MS) (i : Nat) : St := ⟨[.top, .top, .top, .ss 10 1 0 n none, .sym .u64 w, .top, .top, .top, .sym .i64 who, .sym .i64 fd, .sym .i64 wh, .top, .top, .ptr 11 0 0, .sym .i64 (Int.ofNat i)] ++ List.replicate 137 .top, ⟨[(11, .cells 2 [.ss 10 10 0 (al - 0) (some (al - 0)), .sym .u64 0]), (10, .arr 10 tSh false al G), (1, .arr 10 tSh true n g)], 12, gnm 0, [], [], [11, 7, 8, 6, 5, 4, 3], false⟩⟩
noncomputable abbrev sdL : Code := loopAt Try.prog 6 3
noncomputable def sdLP (n al : Nat) (g F G : Nat → Nat → AV) (w who fd wh ta fl : Int) (m : MS) (i : Nat) : Prop := LoopHolds Try.prog sdL (sdU n al g F G w who fd wh ta fl m i) (.exit 6) (sdX n al g F G w who fd wh ta fl m i)
/-- The words of both rows are as they ought to be. -/
def SameW (g G : Nat → Nat → AV) (w who fd wh : Int) (i j : Nat) : Prop := gW G i (Int.ofNat j) = if Int.ofNat i = who ∧ Int.ofNat j = fd ∧ wh ≤ 1 + 10 * who + fd then w else gW g i (Int.ofNat j)

end Go.Proofs.Ytmlfmmnnbdlabaa
