/-
  less: definitions.
-/
import Derived.Test.YtephpkfajobhmaaWBeg
import Derived.Test.YtephpkfajobhmaaWPair
import Derived.Test.YtephpkfajobhmaaEvWords
set_option linter.unusedSimpArgs false
set_option linter.unusedVariables false
namespace Go.Proofs.Ytephpkfajobhmaa
open Go.Ev

noncomputable def rlsH (k a f k2 a2 f2 : Int) : List (Nat × AO) := []
noncomputable def rlsR (k a f k2 a2 f2 : Int) : LR := ⟨0, .symb (ltB (k, a, f) (k2, a2, f2)), [], 0, [], []⟩
end Go.Proofs.Ytephpkfajobhmaa
