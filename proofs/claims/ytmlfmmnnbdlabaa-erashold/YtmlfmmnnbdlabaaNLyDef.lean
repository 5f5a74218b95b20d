/-
  Chapter 14: Lay: definitions.
-/
import Derived.Test.YtmlfmmnnbdlabaaNLx
set_option linter.unusedSimpArgs false
set_option linter.unusedVariables false
namespace Go.Proofs.Ytmlfmmnnbdlabaa
open Go.Ev

noncomputable def layH (n : Nat) (g : Nat → Nat → AV) (bl st c0 k0 a0 f0 w0 i0 : Int) (d0 : Bool) (M : List Int → Option Int) (z : MS) : List (Nat × AO) := [(1, .cells 9 (.map 2 :: .sym .i64 st :: [.sym .u8 c0, .sym .u8 k0, .sym .i64 a0, .sym .i64 f0, .sym .u64 w0, .sym .u64 i0, .symb d0])), (2, .map 128 M), (3, .arr 10 tSh true n g)]
noncomputable def layR (n : Nat) (g : Nat → Nat → AV) (bl st c0 k0 a0 f0 w0 i0 : Int) (d0 : Bool) (M : List Int → Option Int) (z : MS) : LR := ⟨3, .tup [], [(1, .cells 9 (.map 2 :: .sym .i64 z.st :: z.L.l)), (2, .map 128 z.M), (3, .arr 10 tSh true n g)], 0, [1, 2], [n ≤ 16, (layN g (mStore ⟨M, st, ⟨c0, k0, a0, f0, w0, i0, d0⟩⟩ 5 0 0 (IntKind.u64.wrap bl)) n) = z]⟩
end Go.Proofs.Ytmlfmmnnbdlabaa
