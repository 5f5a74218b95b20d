/-
  UMemDef and what follows it.
-/
import Derived.Test.YtljeiencnpnbkaaDoorEvLoc2
import Derived.Test.YtljeiencnpnbkaaDoorRows
/-
  Memories: the program's (a map): its contracts' results.
-/
set_option linter.unusedSimpArgs false
set_option linter.unusedVariables false
namespace Go.Proofs.YtljeiencnpnbkaaDoor
open Go.Ev
theorem mgood : Ev.Good Tryd.prog := goodB (by kernel_rfl) (by kernel_rfl)
noncomputable def EM0 : Env := envOf Tryd.prog []
theorem EM0_ok : EnvOk EM0 := envOf_ok mgood trivial
section
variable (st k a f w v : Int) (M : List Int → Option Int)
/-- A memory: its cells, its words. -/
noncomputable def memH (st : Int) (last : List AV) : List (Nat × AO) := [(1, .cells 9 (.map 2 :: .sym .i64 st :: last)), (2, .map 110 M)]
noncomputable def storeR : LR := ⟨2, .tup [], memH (memPut M k a f v) (IntKind.i64.wrap (st + 1)) (lastL 2 k a f (mget M (key k a f)) (memIs M k a f v) false), 0, [1, 2], [0 ≤ k]⟩
noncomputable def loadR : LR := ⟨2, .sym .u64 (mget M (key k a f)), memH M (IntKind.i64.wrap (st + 1)) (lastL 1 k a f (mget M (key k a f)) (mget M (key k a f)) false), 0, [1, 2], []⟩
noncomputable def casR : LR := ⟨2, .symb (casD M k a f w), memH (casM M k a f w v) (IntKind.i64.wrap (st + 1)) (lastL 3 k a f (mget M (key k a f)) (casI M k a f w v) (casD M k a f w)), 0, [1, 2], [0 ≤ k]⟩
end
end Go.Proofs.YtljeiencnpnbkaaDoor

/-
  The table of the words' fields.
-/
set_option linter.unusedSimpArgs false
set_option linter.unusedVariables false
namespace Go.Proofs.YtljeiencnpnbkaaDoor
open Go.Ev
def tab : List Value := [.int .u64 0, .int .u64 16, .int .u64 16, .int .u64 32, .int .u64 16, .int .u64 48, .int .u64 0, .int .u64 3, .int .u64 3, .int .u64 32, .int .u64 0, .int .u64 3, .int .u64 3, .int .u64 3, .int .u64 6, .int .u64 3, .int .u64 16, .int .u64 48, .int .u64 0, .int .u64 32, .int .u64 32, .int .u64 1]
end Go.Proofs.YtljeiencnpnbkaaDoor
