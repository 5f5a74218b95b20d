/-
  given: its contract: definitions.
-/
import Derived.Test.YtmndhjodbnojdaaDoorJPq
set_option linter.unusedSimpArgs false
set_option linter.unusedVariables false
namespace Go.Proofs.YtmndhjodbnojdaaDoor
open Go.Ev

noncomputable def gvnY : Nat → (Nat → Int) → MS → MS := hide (fun n K S => (gvIt n K S (n + 2)).S)
noncomputable def gvnB : Nat → (Nat → Int) → MS → Bool := hide (fun n K S => decide ((gvIt n K S (n + 2)).o.ln = 0))
theorem gvnY_eq (n : Nat) (K : Nat → Int) (S : MS) : gvnY n K S = (gvIt n K S (n + 2)).S := congrFun (congrFun (congrFun (hide_eq (fun (n : Nat) (K : Nat → Int) (S : MS) => (gvIt n K S (n + 2)).S)) n) K) S
theorem gvnB_eq (n : Nat) (K : Nat → Int) (S : MS) : gvnB n K S = decide ((gvIt n K S (n + 2)).o.ln = 0) := congrFun (congrFun (congrFun (hide_eq (fun (n : Nat) (K : Nat → Int) (S : MS) => decide ((gvIt n K S (n + 2)).o.ln = 0))) n) K) S
/-- A Give by one alone is not over too early. -/
def GvNo (n : Nat) (K : Nat → Int) (S : MS) : Prop := ∀ i, 1 ≤ i → i ≤ n + 1 → ¬ (gvIt n K S i).o.ln = 0

noncomputable def gncH (n l : Nat) (r : Bool) (f : Nat → Nat → AV) (c : Option Nat) (t : Int) (S : MS) (FT : Nat → Nat → AV) : List (Nat × AO) := [(gnm 0, .arr tab.length (tab.map kindOfV) true 1 FT), (1, .cells 9 (.map 2 :: lsL S.st S.L)), (2, .map 115 S.M), (3, .arr 6 [.int .i64, .int .u32, .bool, .int .u64, .int .u64, .int .u64] r l f)]
noncomputable def gncR (n l : Nat) (r : Bool) (f : Nat → Nat → AV) (c : Option Nat) (t : Int) (S : MS) (FT : Nat → Nat → AV) : LR := ⟨3, .symb (gvnB n (yK f) S), [(gnm 0, .arr tab.length (tab.map kindOfV) true 1 FT), (1, .cells 9 (.map 2 :: lsL (gvnY n (yK f) S).st (gvnY n (yK f) S).L)), (2, .map 115 (gvnY n (yK f) S).M), (3, .arr 6 [.int .i64, .int .u32, .bool, .int .u64, .int .u64, .int .u64] r l f)], 0, [1, 2], [FT = tabF tab, n ≤ l, U64 S, GvMay n f, t = Int.ofNat n + 2, GvNo n (yK f) S]⟩
end Go.Proofs.YtmndhjodbnojdaaDoor
