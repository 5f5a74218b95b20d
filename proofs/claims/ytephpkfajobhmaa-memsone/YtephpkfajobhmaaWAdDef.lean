/-
  Addr: definitions.
-/
import Derived.Test.YtephpkfajobhmaaWMemOps
set_option linter.unusedSimpArgs false
set_option linter.unusedVariables false
namespace Go.Proofs.Ytephpkfajobhmaa
open Go.Ev

noncomputable def adH (kd at_ fl : Int) : List (Nat × AO) := []
noncomputable def adR (kd at_ fl : Int) : LR := ⟨0, .agg [.sym .u8 (kd.tmod 12), .sym .i64 (at_.tmod (kAt (kd.tmod 12))), .sym .i64 (fl.tmod (kFl (kd.tmod 12)))], [], 0, [], [0 ≤ kd ∧ kd < 256, 0 ≤ at_ ∧ at_ < 256, 0 ≤ fl ∧ fl < 256]⟩
end Go.Proofs.Ytephpkfajobhmaa
