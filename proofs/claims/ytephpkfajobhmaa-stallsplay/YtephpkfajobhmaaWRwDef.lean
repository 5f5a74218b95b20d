/-
  Words of the document: definitions.
-/
import Derived.Test.YtephpkfajobhmaaWRo
set_option linter.unusedSimpArgs false
set_option linter.unusedVariables false
namespace Go.Proofs.Ytephpkfajobhmaa
open Go.Ev

noncomputable def rwwH (n l : Nat) (g : Nat → Nat → AV) (st : Int) (L : LS) : List (Nat × AO) := [(1, .cells 9 (.ss 4 2 0 n none :: lsL st L)), (2, .arr 4 wSh false l g)]
noncomputable def rwwR (n l : Nat) (g : Nat → Nat → AV) (st : Int) (L : LS) : LR := ⟨2, .ss 4 3 0 (rwl (dOf n g) n).length none, [(1, .cells 9 (.ss 4 2 0 n none :: lsL st L)), (2, .arr 4 wSh false l g), (3, .arr 4 wSh false (rwl (dOf n g) n).length (wdF (wdAt (rwl (dOf n g) n))))], 1, [], [n ≤ l, n ≤ 100000]⟩
end Go.Proofs.Ytephpkfajobhmaa
