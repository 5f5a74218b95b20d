/-
  Pairs of memories: Store: definitions.
-/
import Derived.Test.YtmndhjodbnojdaaDoorJRef2
set_option linter.unusedSimpArgs false
set_option linter.unusedVariables false
namespace Go.Proofs.YtmndhjodbnojdaaDoor
open Go.Ev

/-- Both memories. -/
noncomputable def memSP : List (FuncId × SP) := [(25, locSP mstSpec), (18, locSP mldSpec), (160, locSP mcsSpec), (95, locSP rstSpec), (145, locSP rldSpec), (146, locSP rcsSpec), (141, locSP rwdSpec), (169, locSP rmaySpec), (118, locSP mmaySpec)]
theorem memSP_ok : SPsOk Tryd.prog memSP := ⟨locSP_ok mstSpec_ok, locSP_ok mldSpec_ok, locSP_ok mcsSpec_ok, locSP_ok rstSpec_ok, locSP_ok rldSpec_ok, locSP_ok rcsSpec_ok, locSP_ok rwdSpec_ok, locSP_ok rmaySpec_ok, locSP_ok mmaySpec_ok, trivial⟩
noncomputable def EP0 : Env := envG Tryd.prog memSP
theorem EP0_ok : EnvOk EP0 := envG_ok mgood memSP_ok

noncomputable def pstH (kd ad fd v : Int) (M : List Int → Option Int) (st c0 k0 a0 f0 w0 i0 : Int) (d0 : Bool) (n l : Nat) (g : Nat → Nat → AV) (st2 c2 k2 a2 f2 w2 i2 : Int) (d2 : Bool) : List (Nat × AO) := [(1, .cells 9 [.map 2, .sym .i64 st, .sym .u8 c0, .sym .u8 k0, .sym .i64 a0, .sym .i64 f0, .sym .u64 w0, .sym .u64 i0, .symb d0]), (2, .map 115 M), (3, .cells 9 [.ss 4 4 0 n none, .sym .i64 st2, .sym .u8 c2, .sym .u8 k2, .sym .i64 a2, .sym .i64 f2, .sym .u64 w2, .sym .u64 i2, .symb d2]), (4, .arr 4 wSh false l g)]
noncomputable def pstR (kd ad fd v : Int) (M : List Int → Option Int) (st c0 k0 a0 f0 w0 i0 : Int) (d0 : Bool) (n l : Nat) (g : Nat → Nat → AV) (st2 c2 k2 a2 f2 w2 i2 : Int) (d2 : Bool) : LR := ⟨4, .tup [], [(1, .cells 9 [.map 2, .sym .i64 (IntKind.i64.wrap (st + 1)), .sym .u8 2, .sym .u8 kd, .sym .i64 ad, .sym .i64 fd, .sym .u64 (mget M (key kd ad fd)), .sym .u64 (memIs M kd ad fd v), .symb false]), (2, .map 115 (memPut M kd ad fd v)), (3, .cells 9 [.ss 4 5 0 (dPut (dOf n g) kd ad fd v).n none, .sym .i64 (IntKind.i64.wrap (st2 + 1)), .sym .u8 2, .sym .u8 kd, .sym .i64 ad, .sym .i64 fd, .sym .u64 (dWord (dOf n g) kd ad fd), .sym .u64 (dWord (dPut (dOf n g) kd ad fd v) kd ad fd), .symb false]), (5, .arr 4 wSh false (dPut (dOf n g) kd ad fd v).n (wdF (dPut (dOf n g) kd ad fd v).W))], 1, [1, 2, 3, 4], [n ≤ l, n ≤ 100000, 0 ≤ kd]⟩
end Go.Proofs.YtmndhjodbnojdaaDoor
