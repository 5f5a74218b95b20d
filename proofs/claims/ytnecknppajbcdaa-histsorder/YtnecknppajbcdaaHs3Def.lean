/-
  Histories: All: definitions.
-/
import Derived.Test.YtnecknppajbcdaaHs2
set_option linter.unusedSimpArgs false
set_option linter.unusedVariables false
namespace Go.Proofs.Ytnecknppajbcdaa
open Go.Ev

noncomputable def allH (n l : Nat) (f : Nat → Nat → AV) (U : List Int → Option Int) (last : Int) : List (Nat × AO) := [(1, .cells 3 [.ss 9 2 0 n none, .map 3, .sym .i64 last]), (2, .arr 9 cSh false l f), (3, .map 76 U)]
noncomputable def allR (n l : Nat) (f : Nat → Nat → AV) (U : List Int → Option Int) (last : Int) : LR := ⟨3, .ss 9 4 0 n (some n), [(1, .cells 3 [.ss 9 2 0 n none, .map 3, .sym .i64 last]), (2, .arr 9 cSh false n f), (3, .map 76 U), (4, .arr 9 cSh false n (cF (fCl f)))], 1, [2], [n ≤ l, n ≤ 100000, 0 < n]⟩
end Go.Proofs.Ytnecknppajbcdaa
