/-
  SnapsMoved: the comparison: definitions.
-/
import Derived.Test.YtmlfmmnnbdlabaaNSv
set_option linter.unusedSimpArgs false
set_option linter.unusedVariables false
namespace Go.Proofs.Ytmlfmmnnbdlabaa
open Go.Ev
noncomputable def ESc : Env := envG Try.prog ((35, locSP wtSpec) :: memSpecs)
theorem ESc_ok : EnvOk ESc := envG_ok mgood ⟨locSP_ok wtSpec_ok, memSpecs_ok⟩
noncomputable def scU (n al : Nat) (g F G : Nat → Nat → AV) (w who fd wh ta fl : Int) (m : MS) : St := ⟨[.top, .top, .top, .ss 10 1 0 n none, .sym .u64 w, .top, .top, .top, .sym .i64 who, .sym .i64 fd, .sym .i64 wh, .top, .top, .ptr 11 0 0, .int .i64 0] ++ List.replicate 137 .top, ⟨[(11, .cells 2 [.ss 10 10 0 (al - 0) (some (al - 0)), .sym .u64 0]), (10, .arr 10 tSh false al G), (9, .arr 10 tSh false 0 (fun _ _ => .top)), (8, .cells 2 [.ss 10 10 0 (al - 0) (some (al - 0)), .sym .u64 0]), (7, .cells 2 [.ss 10 10 0 (al - 0) (some (al - 0)), .sym .u64 0]), (5, .cells 6 [.nilf, .ss 10 6 0 al (some al), .sym .u64 0, .sym .i64 ta, .sym .i64 fl, .sym .i64 (Int.ofNat al)]), (6, .arr 10 tSh false al F), (4, .cells 9 (.map 3 :: .sym .i64 m.st :: m.L.l)), (3, .map 128 m.M), (1, .arr 10 tSh true n g)], 12, gnm 0, [], [], [11, 7, 8, 6, 5, 4, 3], false⟩⟩
noncomputable def scT (n al : Nat) (g F G : Nat → Nat → AV) (w who fd wh ta fl : Int) (m : MS) (i : Nat) : St := ⟨[.top, .top, .top, .ss 10 1 0 n none, .sym .u64 w, .top, .top, .top, .sym .i64 who, .sym .i64 fd, .sym .i64 wh, .top, .top, .ptr 11 0 0, .sym .i64 (Int.ofNat i)] ++ List.replicate 137 .top, ⟨[(11, .cells 2 [.ss 10 10 0 (al - 0) (some (al - 0)), .sym .u64 0]), (10, .arr 10 tSh false al G), (1, .arr 10 tSh true n g)], 12, gnm 0, [], [], [11, 7, 8, 6, 5, 4, 3], false⟩⟩
noncomputable def scX (n al : Nat) (g F G : Nat → Nat → AV) (w who fd wh ta fl : Int) (m : MS) : St := ⟨[] ++ List.replicate 152 .top, ⟨[(11, .cells 2 [.ss 10 10 0 (al - 0) (some (al - 0)), .sym .u64 0]), (10, .arr 10 tSh false al G), (1, .arr 10 tSh true n g)], 12, gnm 0, [], [], [11, 7, 8, 6, 5, 4, 3], false⟩⟩
noncomputable abbrev scL : Code := loopAt Try.prog 6 2
noncomputable def scLP (n al : Nat) (g F G : Nat → Nat → AV) (w who fd wh ta fl : Int) (m : MS) : Prop := LoopHolds Try.prog scL (scU n al g F G w who fd wh ta fl m) (.exit 4) (scX n al g F G w who fd wh ta fl m)
end Go.Proofs.Ytmlfmmnnbdlabaa
