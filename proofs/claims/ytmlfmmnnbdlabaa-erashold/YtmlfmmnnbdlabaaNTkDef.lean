/-
  Snapshots: the Taker: states.
-/
import Derived.Test.YtmlfmmnnbdlabaaEvDoor
import Derived.Test.YtmlfmmnnbdlabaaNMemOps
set_option linter.unusedSimpArgs false
set_option linter.unusedVariables false
namespace Go.Proofs.Ytmlfmmnnbdlabaa
open Go.Ev
def tSh : List CK := [.int .u64, .int .u64, .int .u64, .int .u64, .int .u64, .int .u64, .int .u64, .int .u64, .int .u64, .int .u64]
noncomputable def EMo3 : Env := envG Try.prog memSpecs
theorem EMo3_ok : EnvOk EMo3 := envG_ok mgood memSpecs_ok
/-- A word of a thread put into the rows. -/
def tkF (F : Nat → Nat → AV) (ta fl w : Int) : Nat → Nat → AV := fun i j => if i = ta.toNat then (if j = fl.toNat then .sym .u64 w else F i j) else F i j
def nK (fl : Int) : Nat := if 7 ≤ fl then 8 else fl.toNat + 1
noncomputable def tkH (M : List Int → Option Int) (st c0 k0 a0 f0 w0 i0 : Int) (d0 : Bool) (ta fl al ep : Int) (n : Nat) (F : Nat → Nat → AV) : List (Nat × AO) := [(1, .cells 6 [(.func (.func 106) [.ptr 1 0 0] []), .ss 10 2 0 n (some n), .sym .u64 ep, .sym .i64 ta, .sym .i64 fl, .sym .i64 al]), (2, .arr 10 tSh false n F), (3, .cells 9 (.map 4 :: .sym .i64 st :: lastL c0 k0 a0 f0 w0 i0 d0)), (4, .map 128 M)]
noncomputable def tkO (M : List Int → Option Int) (st c0 k0 a0 f0 w0 i0 : Int) (d0 : Bool) (ta fl al ep : Int) (n : Nat) (F : Nat → Nat → AV) (at2 fl2 : Int) : List (Nat × AO) := [(1, .cells 6 [(.func (.func 106) [.ptr 1 0 0] []), .ss 10 2 0 n (some n), .sym .u64 ep, .sym .i64 at2, .sym .i64 fl2, .sym .i64 al]), (2, .arr 10 tSh false n (tkF F ta fl (mget M (key 8 ta fl)))), (3, .cells 9 (.map 4 :: .sym .i64 (IntKind.i64.wrap (st + 1)) :: lastL 1 8 ta fl (mget M (key 8 ta fl)) (mget M (key 8 ta fl)) false)), (4, .map 128 M)]
noncomputable def tkE (M : List Int → Option Int) (st c0 k0 a0 f0 w0 i0 : Int) (d0 : Bool) (ta fl al ep : Int) (n : Nat) (F : Nat → Nat → AV) (at2 fl2 : Int) : List (Nat × AO) := [(1, .cells 6 [.nilf, .ss 10 2 0 n (some n), .sym .u64 ep, .sym .i64 at2, .sym .i64 fl2, .sym .i64 al]), (2, .arr 10 tSh false n (tkF F ta fl (mget M (key 8 ta fl)))), (3, .cells 9 (.map 4 :: .sym .i64 (IntKind.i64.wrap (st + 1)) :: lastL 1 8 ta fl (mget M (key 8 ta fl)) (mget M (key 8 ta fl)) false)), (4, .map 128 M)]
noncomputable def tkR (M : List Int → Option Int) (st c0 k0 a0 f0 w0 i0 : Int) (d0 : Bool) (ta fl al ep : Int) (n : Nat) (F : Nat → Nat → AV) (at2 fl2 : Int) (obs : List Prop) : LR := ⟨4, .bool false, tkO M st c0 k0 a0 f0 w0 i0 d0 ta fl al ep n F at2 fl2, 0, [1, 2, 3, 4], obs⟩
noncomputable def tkQ (M : List Int → Option Int) (st c0 k0 a0 f0 w0 i0 : Int) (d0 : Bool) (ta fl al ep : Int) (n : Nat) (F : Nat → Nat → AV) (at2 fl2 : Int) (obs : List Prop) : LR := ⟨4, .bool true, tkE M st c0 k0 a0 f0 w0 i0 d0 ta fl al ep n F at2 fl2, 0, [1, 2, 3, 4], obs⟩
end Go.Proofs.Ytmlfmmnnbdlabaa
