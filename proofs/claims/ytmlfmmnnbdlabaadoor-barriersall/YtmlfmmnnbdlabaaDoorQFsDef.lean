/-
  QFsDef and what follows it.
-/
import Derived.Test.YtmlfmmnnbdlabaaDoorQRc
import Derived.Test.YtmlfmmnnbdlabaaDoorQLyDef
/-
  BarriersAll: the loop that looks for the first: definitions.
-/
set_option linter.unusedSimpArgs false
set_option linter.unusedVariables false
namespace Go.Proofs.YtmlfmmnnbdlabaaDoor
open Go.Ev
noncomputable def fsU (n : Nat) (g : Nat → Nat → AV) (z0 z1 nb lk al : Int) (X : MS) : St := ⟨[.ss 10 1 0 n none, .top, .top, .top, .top, .top, .top, .ptr 4 0 0, .sym .u64 nb, .sym .i64 lk, .sym .i64 al, .int .i64 (-1), .int .i64 0] ++ List.replicate 125 .top, ⟨[(4, .cells 9 (.map 3 :: .sym .i64 X.st :: X.L.l)), (3, .map 76 X.M), (2, .cells 2 [.sym .u8 z0, .sym .u8 z1]), (gnm 0, tabAO tab), (1, .arr 10 tSh true n g)], 5, gnm 0, [], [], [4, 3], false⟩⟩
noncomputable def fsT (n : Nat) (g : Nat → Nat → AV) (z0 z1 nb lk al : Int) (X : MS) (i : Nat) (fi : Int) : St := ⟨[.ss 10 1 0 n none, .top, .top, .top, .top, .top, .top, .ptr 4 0 0, .sym .u64 nb, .sym .i64 lk, .sym .i64 al, .sym .i64 fi, .sym .i64 (Int.ofNat i)] ++ List.replicate 125 .top, ⟨[(4, .cells 9 (.map 3 :: .sym .i64 X.st :: X.L.l)), (3, .map 76 X.M), (gnm 0, tabAO tab), (1, .arr 10 tSh true n g)], 5, gnm 0, [], [], [4, 3], false⟩⟩
noncomputable def fsX (n : Nat) (g : Nat → Nat → AV) (z0 z1 nb lk al : Int) (X : MS) (fi : Int) : St := ⟨[.top, .top, .top, .top, .top, .top, .top, .ptr 4 0 0, .sym .u64 nb, .sym .i64 lk, .sym .i64 al, .sym .i64 fi] ++ List.replicate 126 .top, ⟨[(4, .cells 9 (.map 3 :: .sym .i64 X.st :: X.L.l)), (3, .map 76 X.M), (gnm 0, tabAO tab), (1, .arr 10 tSh true n g)], 5, gnm 0, [], [], [4, 3], false⟩⟩
noncomputable abbrev fsL : Code := loopAt Tryd.prog 4 0
noncomputable def fsLP (n : Nat) (g : Nat → Nat → AV) (z0 z1 nb lk al : Int) (X : MS) (fi : Int) : Prop := LoopHolds Tryd.prog fsL (fsU n g z0 z1 nb lk al X) (.exit 0) (fsX n g z0 z1 nb lk al X fi)
end Go.Proofs.YtmlfmmnnbdlabaaDoor

/-
  BarriersAll: the loop that looks for the first: definitions.
-/
set_option linter.unusedSimpArgs false
set_option linter.unusedVariables false
namespace Go.Proofs.YtmlfmmnnbdlabaaDoor
open Go.Ev

/-- A row that a Barrier waits for. -/
def blkB (g : Nat → Nat → AV) (nb : Int) (i : Nat) : Bool := and2 (avInt (g (0 + i) 0) != 0) (and2 (avInt (g (0 + i) 1) != 0) (and2 (avInt (g (0 + i) 6) == 0) (!bpReach nb (avInt (g (0 + i) 2)))))
/-- The first one of N. -/
def fsF (K N : Nat) : Int := if K < N then Int.ofNat K else -1
/-- What is found behind i rounds. -/
def fsN (K N i : Nat) : Int := if i ≤ K then -1 else fsF K N
/-- How many rounds there are. -/
def fsE (K N : Nat) : Nat := if K < N then K + 1 else N

end Go.Proofs.YtmlfmmnnbdlabaaDoor
