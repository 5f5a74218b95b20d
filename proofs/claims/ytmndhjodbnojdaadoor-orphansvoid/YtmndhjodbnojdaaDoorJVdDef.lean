/-
  may, where one may not be: its contract: definitions.
-/
import Derived.Test.YtmndhjodbnojdaaDoorJVc
set_option linter.unusedSimpArgs false
set_option linter.unusedVariables false
namespace Go.Proofs.YtmndhjodbnojdaaDoor
open Go.Ev

noncomputable def mykH (n l : Nat) (r : Bool) (f : Nat → Nat → AV) (c : Option Nat) (kk : Nat) : List (Nat × AO) := [(1, .arr 6 [.int .i64, .int .u32, .bool, .int .u64, .int .u64, .int .u64] r l f)]
noncomputable def mykR (n l : Nat) (r : Bool) (f : Nat → Nat → AV) (c : Option Nat) (kk : Nat) : LR := ⟨1, .tup [.nils, .symb false], [(1, .arr 6 [.int .i64, .int .u32, .bool, .int .u64, .int .u64, .int .u64] r l f)], 1, [], [n ≤ l, n ≤ 1000000, kk < n, ∀ i, i < kk → Gd f i, ¬ Gd f kk]⟩
end Go.Proofs.YtmndhjodbnojdaaDoor
