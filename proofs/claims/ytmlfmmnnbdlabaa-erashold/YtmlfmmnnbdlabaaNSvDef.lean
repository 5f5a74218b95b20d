/-
  SnapsMoved: the loop of the Taker: definitions.
-/
import Derived.Test.YtmlfmmnnbdlabaaNTs
import Derived.Test.YtmlfmmnnbdlabaaNLy
set_option linter.unusedSimpArgs false
set_option linter.unusedVariables false
namespace Go.Proofs.Ytmlfmmnnbdlabaa
open Go.Ev

structure SV where
  m : MS
  ta : Int
  fl : Int
  F : Nat → Nat → AV
inductive SI where
  | b
  | w (k : Nat)
  | o
/-- The memory at a step: the word may be stored ahead of it. -/
def svM (who fd w wh : Int) (i : Nat) (x : MS) : MS := if Int.ofNat i = wh then mStore x 8 who fd w else x
noncomputable def svZ (x : MS) : SV := ⟨mLoad x 5 0 0, 0, 0, tF0⟩
noncomputable def svS (x : MS) (s : SV) : SV := ⟨mLoad x 8 s.ta s.fl, tkAt x.M s.F s.ta s.fl, tkFl x.M s.F s.ta s.fl, tkF s.F s.ta s.fl (mget x.M (key 8 s.ta s.fl))⟩
noncomputable def svN (who fd w wh : Int) (x : MS) : Nat → SV
  | 0 => svZ (svM who fd w wh 0 x)
  | k + 1 => svS (svM who fd w wh (k + 1) (svN who fd w wh x k).m) (svN who fd w wh x k)
noncomputable def ESv : Env := envG Try.prog ((33, tkSP) :: memSpecs)
theorem ESv_ok : EnvOk ESv := envG_ok mgood ⟨tkSP_ok, memSpecs_ok⟩
noncomputable def svU (n al : Nat) (g : Nat → Nat → AV) (z0 z1 w wt bl who fd wh : Int) (x : MS) : St := ⟨[.top, .top, .top, .ss 10 1 0 n none, .sym .u64 w, .top, .ptr 4 0 0, .sym .i64 bl, .sym .i64 who, .sym .i64 fd, .sym .i64 wh, .ptr 5 0 0, .int .i64 0] ++ List.replicate 139 .top, ⟨[(5, .cells 6 [.func (.func 76) [.ptr 5 0 0] [], .nils, .int .u64 0, .int .i64 0, .int .i64 0, .int .i64 0]), (4, .cells 9 (.map 3 :: .sym .i64 x.st :: x.L.l)), (3, .map 128 x.M), (2, .cells 5 [.ss 10 1 0 n none, .sym .u8 z0, .sym .u8 z1, .sym .u64 w, .sym .u8 wt]), (1, .arr 10 tSh true n g)], 6, gnm 0, [], [], [5, 4, 3], false⟩⟩
noncomputable def svB (n al : Nat) (g : Nat → Nat → AV) (z0 z1 w wt bl who fd wh : Int) (x : MS) : St := ⟨[.top, .top, .top, .ss 10 1 0 n none, .sym .u64 w, .top, .ptr 4 0 0, .sym .i64 bl, .sym .i64 who, .sym .i64 fd, .sym .i64 wh, .ptr 5 0 0, .int .i64 0] ++ List.replicate 139 .top, ⟨[(5, .cells 6 [.func (.func 76) [.ptr 5 0 0] [], .nils, .int .u64 0, .int .i64 0, .int .i64 0, .int .i64 0]), (4, .cells 9 (.map 3 :: .sym .i64 x.st :: x.L.l)), (3, .map 128 x.M), (1, .arr 10 tSh true n g)], 7, gnm 0, [], [], [6, 5, 4, 3], false⟩⟩
noncomputable def svW (n al : Nat) (g : Nat → Nat → AV) (z0 z1 w wt bl who fd wh : Int) (k : Nat) (s : SV) : St := ⟨[.top, .top, .top, .ss 10 1 0 n none, .sym .u64 w, .top, .ptr 4 0 0, .sym .i64 bl, .sym .i64 who, .sym .i64 fd, .sym .i64 wh, .ptr 5 0 0, .sym .i64 (Int.ofNat (k + 1))] ++ List.replicate 139 .top, ⟨[(5, .cells 6 [.func (.func 106) [.ptr 5 0 0] [], .ss 10 6 0 al (some al), .sym .u64 0, .sym .i64 s.ta, .sym .i64 s.fl, .sym .i64 (Int.ofNat al)]), (6, .arr 10 tSh false al s.F), (4, .cells 9 (.map 3 :: .sym .i64 s.m.st :: s.m.L.l)), (3, .map 128 s.m.M), (1, .arr 10 tSh true n g)], 7, gnm 0, [], [], [6, 5, 4, 3], false⟩⟩
noncomputable def svO (n al : Nat) (g : Nat → Nat → AV) (z0 z1 w wt bl who fd wh : Int) (k : Nat) (s : SV) : St := ⟨[.top, .top, .top, .ss 10 1 0 n none, .sym .u64 w, .top, .ptr 4 0 0, .sym .i64 bl, .sym .i64 who, .sym .i64 fd, .sym .i64 wh, .ptr 5 0 0, .sym .i64 (Int.ofNat (k + 1))] ++ List.replicate 139 .top, ⟨[(5, .cells 6 [.nilf, .ss 10 6 0 al (some al), .sym .u64 0, .sym .i64 s.ta, .sym .i64 s.fl, .sym .i64 (Int.ofNat al)]), (6, .arr 10 tSh false al s.F), (4, .cells 9 (.map 3 :: .sym .i64 s.m.st :: s.m.L.l)), (3, .map 128 s.m.M), (1, .arr 10 tSh true n g)], 7, gnm 0, [], [], [6, 5, 4, 3], false⟩⟩
noncomputable def svX (n al : Nat) (g : Nat → Nat → AV) (z0 z1 w wt bl who fd wh : Int) (s : SV) : St := ⟨[.top, .top, .top, .ss 10 1 0 n none, .sym .u64 w, .top, .top, .sym .i64 bl, .sym .i64 who, .sym .i64 fd, .sym .i64 wh, .ptr 5 0 0] ++ List.replicate 140 .top, ⟨[(5, .cells 6 [.nilf, .ss 10 6 0 al (some al), .sym .u64 0, .sym .i64 s.ta, .sym .i64 s.fl, .sym .i64 (Int.ofNat al)]), (6, .arr 10 tSh false al s.F), (4, .cells 9 (.map 3 :: .sym .i64 s.m.st :: s.m.L.l)), (3, .map 128 s.m.M), (1, .arr 10 tSh true n g)], 7, gnm 0, [], [], [6, 5, 4, 3], false⟩⟩
noncomputable def svT (n al : Nat) (g : Nat → Nat → AV) (z0 z1 w wt bl who fd wh : Int) (K : Nat) (x : MS) : SI → St
  | .b => svB n al g z0 z1 w wt bl who fd wh x
  | .w k => svW n al g z0 z1 w wt bl who fd wh k (svN who fd w wh x k)
  | .o => svO n al g z0 z1 w wt bl who fd wh K (svN who fd w wh x K)
def svMu (K : Nat) : SI → Nat
  | .b => K + 2
  | .w k => K + 1 - k
  | .o => 0
def svI (K : Nat) : SI → Prop
  | .b => True
  | .w k => k < K
  | .o => True
noncomputable abbrev svL : Code := loopAt Try.prog 6 1
noncomputable def svLP (n al : Nat) (g : Nat → Nat → AV) (z0 z1 w wt bl who fd wh : Int) (x : MS) (s : SV) : Prop := LoopHolds Try.prog svL (svU n al g z0 z1 w wt bl who fd wh x) (.exit 2) (svX n al g z0 z1 w wt bl who fd wh s)

end Go.Proofs.Ytmlfmmnnbdlabaa
