/-
  StallsAny: definitions.
-/
import Derived.Test.YtephpkfajobhmaaWSl
set_option linter.unusedSimpArgs false
set_option linter.unusedVariables false
namespace Go.Proofs.Ytephpkfajobhmaa
open Go.Ev
noncomputable def stRun (n : Nat) (g : Nat → Nat → AV) (sl ge : Int) (mk : Bool) (b ep er : Int) (z0 z1 z2 : Int) (h : List Hint) : Option (AV × List Prop × Bool) := (callF ESl 5000 7 [.ss 10 1 0 n none, .agg [.sym .i64 sl, .sym .u32 ge, .symb mk, .sym .u64 b, .sym .u64 ep, .sym .u64 er], .agg [.sym .i64 z0, .sym .i64 z1, .sym .i64 z2]] ⟨[(1, .arr 10 tSh true n g)], 2, gnm 0, h, [], [], false⟩).map (fun x => (x.1, x.2.ob, noneIn [(1, .arr 10 tSh true n g)] x.2.wr))
end Go.Proofs.Ytephpkfajobhmaa
