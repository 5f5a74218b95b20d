/-
  Chapter 14: the loop of Lay: definitions.
-/
import Derived.Test.YtmlfmmnnbdlabaaDoorQWt
set_option linter.unusedSimpArgs false
set_option linter.unusedVariables false
namespace Go.Proofs.YtmlfmmnnbdlabaaDoor
open Go.Ev

noncomputable def ELy : Env := envG Tryd.prog ((30, locSP wtSpec) :: memSpecs)
theorem ELy_ok : EnvOk ELy := envG_ok mgood ⟨locSP_ok wtSpec_ok, memSpecs_ok⟩
/-- A word of the rows. -/
noncomputable def gW (g : Nat → Nat → AV) (i : Nat) (j : Int) : Int := wd10 (avInt (g (0 + i) 0)) (avInt (g (0 + i) 1)) (avInt (g (0 + i) 2)) (avInt (g (0 + i) 3)) (avInt (g (0 + i) 4)) (avInt (g (0 + i) 5)) (avInt (g (0 + i) 6)) (avInt (g (0 + i) 7)) (avInt (g (0 + i) 8)) (avInt (g (0 + i) 9)) j
/-- The first j words of thread i stored. -/
noncomputable def layK (g : Nat → Nat → AV) (i : Nat) (x : MS) : Nat → MS
  | 0 => x
  | j + 1 => mStore (layK g i x j) 8 (Int.ofNat i) (Int.ofNat j) (gW g i (Int.ofNat j))
noncomputable def layN (g : Nat → Nat → AV) (x : MS) : Nat → MS
  | 0 => x
  | i + 1 => layK g i (layN g x i) 10
noncomputable def lyU (n : Nat) (g : Nat → Nat → AV) (x : MS) : St := ⟨[.ptr 1 0 0, .ss 10 3 0 n none, .top, .top, .top, .top, .int .i64 0] ++ List.replicate 31 .top, ⟨[(1, .cells 9 (.map 2 :: .sym .i64 x.st :: x.L.l)), (2, .map 76 x.M), (3, .arr 10 tSh true n g)], 4, gnm 0, [], [], [1, 2], false⟩⟩
noncomputable def lyT (n : Nat) (g : Nat → Nat → AV) (i : Nat) (x : MS) : St := ⟨[.ptr 1 0 0, .ss 10 3 0 n none, .top, .top, .top, .top, .sym .i64 (Int.ofNat i)] ++ List.replicate 31 .top, ⟨[(1, .cells 9 (.map 2 :: .sym .i64 x.st :: x.L.l)), (2, .map 76 x.M), (3, .arr 10 tSh true n g)], 4, gnm 0, [], [], [1, 2], false⟩⟩
noncomputable def lyX (n : Nat) (g : Nat → Nat → AV) (x : MS) : St := ⟨[] ++ List.replicate 38 .top, ⟨[(1, .cells 9 (.map 2 :: .sym .i64 x.st :: x.L.l)), (2, .map 76 x.M), (3, .arr 10 tSh true n g)], 4, gnm 0, [], [], [1, 2], false⟩⟩
noncomputable abbrev lyL : Code := loopAt Tryd.prog 17 0
noncomputable def lyLP (n : Nat) (g : Nat → Nat → AV) (x z : MS) : Prop := LoopHolds Tryd.prog lyL (lyU n g x) (.exit 0) (lyX n g z)

end Go.Proofs.YtmlfmmnnbdlabaaDoor
