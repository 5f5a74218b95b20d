/-
  The document's memory: Load, Store, CAS: definitions.
-/
import Derived.Test.YtmndhjodbnojdaaDoorJRef
set_option linter.unusedSimpArgs false
set_option linter.unusedVariables false
namespace Go.Proofs.YtmndhjodbnojdaaDoor
open Go.Ev

noncomputable def EMR : Env := envG Tryd.prog [(169, locSP rmaySpec), (118, locSP mmaySpec), (141, locSP rwdSpec), (142, locSP rptSpec)]
theorem EMR_ok : EnvOk EMR := envG_ok mgood ⟨locSP_ok rmaySpec_ok, locSP_ok mmaySpec_ok, locSP_ok rwdSpec_ok, locSP_ok rptSpec_ok, trivial⟩

noncomputable def rldH (kd ad fd : Int) (n l : Nat) (g : Nat → Nat → AV) (st c0 k0 a0 f0 w0 i0 : Int) (d0 : Bool) : List (Nat × AO) := [(1, .cells 9 [.ss 4 2 0 n none, .sym .i64 st, .sym .u8 c0, .sym .u8 k0, .sym .i64 a0, .sym .i64 f0, .sym .u64 w0, .sym .u64 i0, .symb d0]), (2, .arr 4 wSh false l g)]
noncomputable def rldR (kd ad fd : Int) (n l : Nat) (g : Nat → Nat → AV) (st c0 k0 a0 f0 w0 i0 : Int) (d0 : Bool) : LR := ⟨2, .sym .u64 (dWord (dOf n g) kd ad fd), [(1, .cells 9 [.ss 4 2 0 n none, .sym .i64 (IntKind.i64.wrap (st + 1)), .sym .u8 1, .sym .u8 kd, .sym .i64 ad, .sym .i64 fd, .sym .u64 (dWord (dOf n g) kd ad fd), .sym .u64 (dWord (dOf n g) kd ad fd), .symb false]), (2, .arr 4 wSh false l g)], 0, [1], [n ≤ l, n ≤ 1000000]⟩
noncomputable def rstH (kd ad fd v : Int) (n l : Nat) (g : Nat → Nat → AV) (st c0 k0 a0 f0 w0 i0 : Int) (d0 : Bool) : List (Nat × AO) := [(1, .cells 9 [.ss 4 2 0 n none, .sym .i64 st, .sym .u8 c0, .sym .u8 k0, .sym .i64 a0, .sym .i64 f0, .sym .u64 w0, .sym .u64 i0, .symb d0]), (2, .arr 4 wSh false l g)]
noncomputable def rstR (kd ad fd v : Int) (n l : Nat) (g : Nat → Nat → AV) (st c0 k0 a0 f0 w0 i0 : Int) (d0 : Bool) : LR := ⟨2, .tup [], [(1, .cells 9 [.ss 4 3 0 (dPut (dOf n g) kd ad fd v).n none, .sym .i64 (IntKind.i64.wrap (st + 1)), .sym .u8 2, .sym .u8 kd, .sym .i64 ad, .sym .i64 fd, .sym .u64 (dWord (dOf n g) kd ad fd), .sym .u64 (dWord (dPut (dOf n g) kd ad fd v) kd ad fd), .symb false]), (3, .arr 4 wSh false (dPut (dOf n g) kd ad fd v).n (wdF (dPut (dOf n g) kd ad fd v).W))], 1, [1, 2], [n ≤ l, n ≤ 100000, 0 ≤ kd]⟩
noncomputable def rcsH (kd ad fd w v : Int) (n l : Nat) (g : Nat → Nat → AV) (st c0 k0 a0 f0 w0 i0 : Int) (d0 : Bool) : List (Nat × AO) := [(1, .cells 9 [.ss 4 2 0 n none, .sym .i64 st, .sym .u8 c0, .sym .u8 k0, .sym .i64 a0, .sym .i64 f0, .sym .u64 w0, .sym .u64 i0, .symb d0]), (2, .arr 4 wSh false l g)]
noncomputable def rcsR (kd ad fd w v : Int) (n l : Nat) (g : Nat → Nat → AV) (st c0 k0 a0 f0 w0 i0 : Int) (d0 : Bool) : LR := ⟨2, .symb (dCasD (dOf n g) kd ad fd w), [(1, .cells 9 [.ss 4 3 0 (dCasM (dOf n g) kd ad fd w v).n none, .sym .i64 (IntKind.i64.wrap (st + 1)), .sym .u8 3, .sym .u8 kd, .sym .i64 ad, .sym .i64 fd, .sym .u64 (dWord (dOf n g) kd ad fd), .sym .u64 (dWord (dCasM (dOf n g) kd ad fd w v) kd ad fd), .symb (dCasD (dOf n g) kd ad fd w)]), (3, .arr 4 wSh false (dCasM (dOf n g) kd ad fd w v).n (wdF (dCasM (dOf n g) kd ad fd w v).W))], 1, [1, 2], [n ≤ l, n ≤ 100000, 0 ≤ kd]⟩
end Go.Proofs.YtmndhjodbnojdaaDoor
