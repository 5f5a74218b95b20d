/-
  NewGive, where one may not be: its contract: definitions.
-/
import Derived.Test.YtmndhjodbnojdaaDoorJVd
set_option linter.unusedSimpArgs false
set_option linter.unusedVariables false
namespace Go.Proofs.YtmndhjodbnojdaaDoor
open Go.Ev

noncomputable def EIn : Env := envG Tryd.prog [(78, locSP myzSpec)]
theorem EIn_ok : EnvOk EIn := envG_ok mgood ⟨locSP_ok myzSpec_ok, trivial⟩
noncomputable def ngzH (n l : Nat) (r : Bool) (f : Nat → Nat → AV) (c : Option Nat) : List (Nat × AO) := [(1, .arr 6 [.int .i64, .int .u32, .bool, .int .u64, .int .u64, .int .u64] r l f)]
noncomputable def ngzR (n l : Nat) (r : Bool) (f : Nat → Nat → AV) (c : Option Nat) : LR := ⟨1, .ptr 2 0 0, [(1, .arr 6 [.int .i64, .int .u32, .bool, .int .u64, .int .u64, .int .u64] r l f), (2, .cells 4 [.int .i64 0, .int .u64 0, .nils, .int .i64 0])], 1, [], [n ≤ l, n ≤ 1000000, ∃ i, i < n ∧ ¬ Gd f i]⟩
noncomputable def ngnH  : List (Nat × AO) := []
noncomputable def ngnR  : LR := ⟨0, .ptr 1 0 0, [(1, .cells 4 [.int .i64 0, .int .u64 0, .nils, .int .i64 0])], 1, [], []⟩
end Go.Proofs.YtmndhjodbnojdaaDoor
