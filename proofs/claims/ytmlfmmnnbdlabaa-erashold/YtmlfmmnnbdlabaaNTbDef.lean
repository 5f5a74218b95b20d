/-
  Snapshots: the first step of the Taker: definitions.
-/
import Derived.Test.YtmlfmmnnbdlabaaNTk
set_option linter.unusedSimpArgs false
set_option linter.unusedVariables false
namespace Go.Proofs.Ytmlfmmnnbdlabaa
open Go.Ev
def tbN (M : List Int → Option Int) : Int := 4 * (if 4 < mget M (key 5 0 0) then 4 else mget M (key 5 0 0))
def tF0 : Nat → Nat → AV := fun _ _ => .sym .u64 0
theorem tb_w {M : List Int → Option Int} (h : 0 ≤ mget M (key 5 0 0)) : IntKind.i64.wrap (IntKind.i64.wrap (if 4 < mget M (key 5 0 0) then 4 else mget M (key 5 0 0)) * 4) = tbN M ∧ 0 ≤ tbN M ∧ tbN M ≤ 16 := by
  unfold tbN
  have : 0 ≤ (if 4 < mget M (key 5 0 0) then (4 : Int) else mget M (key 5 0 0)) ∧ (if 4 < mget M (key 5 0 0) then (4 : Int) else mget M (key 5 0 0)) ≤ 4 := by split <;> omega
  generalize (if 4 < mget M (key 5 0 0) then (4 : Int) else mget M (key 5 0 0)) = q at *
  rw [i64w (x := q) (by omega) (by omega), i64w (by omega) (by omega)]
  omega

noncomputable def tbaH (M : List Int → Option Int) (m0 at0 fi0 al0 st c0 k0 a0 f0 w0 i0 : Int) (d0 : Bool) : List (Nat × AO) := [(1, .cells 6 [.func (.func 76) [.ptr 1 0 0] [], .nils, .sym .u64 m0, .sym .i64 at0, .sym .i64 fi0, .sym .i64 al0]), (2, .cells 9 (.map 3 :: .sym .i64 st :: lastL c0 k0 a0 f0 w0 i0 d0)), (3, .map 128 M)]
noncomputable def tbaR (M : List Int → Option Int) (m0 at0 fi0 al0 st c0 k0 a0 f0 w0 i0 : Int) (d0 : Bool) : LR := ⟨3, .bool false, [(1, .cells 6 [.func (.func 106) [.ptr 1 0 0] [], .ss 10 4 0 (tbN M).toNat (some (tbN M).toNat), .sym .u64 m0, .sym .i64 at0, .sym .i64 fi0, .sym .i64 (tbN M)]), (4, .arr 10 tSh false (tbN M).toNat tF0), (2, .cells 9 (.map 3 :: .sym .i64 (IntKind.i64.wrap (st + 1)) :: lastL 1 5 0 0 (mget M (key 5 0 0)) (mget M (key 5 0 0)) false)), (3, .map 128 M)], 1, [1, 2, 3], [0 ≤ mget M (key 5 0 0), tbN M ≠ 0]⟩
noncomputable def tbbH (M : List Int → Option Int) (m0 at0 fi0 al0 st c0 k0 a0 f0 w0 i0 : Int) (d0 : Bool) : List (Nat × AO) := [(1, .cells 6 [.func (.func 76) [.ptr 1 0 0] [], .nils, .sym .u64 m0, .sym .i64 at0, .sym .i64 fi0, .sym .i64 al0]), (2, .cells 9 (.map 3 :: .sym .i64 st :: lastL c0 k0 a0 f0 w0 i0 d0)), (3, .map 128 M)]
noncomputable def tbbR (M : List Int → Option Int) (m0 at0 fi0 al0 st c0 k0 a0 f0 w0 i0 : Int) (d0 : Bool) : LR := ⟨3, .bool true, [(1, .cells 6 [.nilf, .xs 10 4 0 0 (some 0), .sym .u64 m0, .sym .i64 at0, .sym .i64 fi0, .sym .i64 0]), (4, .arr 10 tSh false 0 tF0), (2, .cells 9 (.map 3 :: .sym .i64 (IntKind.i64.wrap (st + 1)) :: lastL 1 5 0 0 (mget M (key 5 0 0)) (mget M (key 5 0 0)) false)), (3, .map 128 M)], 1, [1, 2, 3], [0 ≤ mget M (key 5 0 0), tbN M = 0]⟩
end Go.Proofs.Ytmlfmmnnbdlabaa
