/-
  Steps of a Give: the contract: definitions.
-/
import Derived.Test.YtmndhjodbnojdaaDoorJOg
set_option linter.unusedSimpArgs false
set_option linter.unusedVariables false
namespace Go.Proofs.YtmndhjodbnojdaaDoor
open Go.Ev

noncomputable def gvX : Nat → (Nat → Int) → MS → GO → GO := hide gvO
noncomputable def gvY : Nat → (Nat → Int) → MS → GO → MS := hide gvS
theorem gvX_eq (n : Nat) (K : Nat → Int) (S : MS) (o : GO) : gvX n K S o = gvO n K S o := congrFun (congrFun (congrFun (congrFun (hide_eq gvO) n) K) S) o
theorem gvY_eq (n : Nat) (K : Nat → Int) (S : MS) (o : GO) : gvY n K S o = gvS n K S o := congrFun (congrFun (congrFun (congrFun (hide_eq gvS) n) K) S) o
/-- A line of a Give of n slots, and where it is. -/
def GLn (n : Nat) (l a : Int) : Prop := l = 0 ∨ (l = 1 ∧ 0 ≤ a ∧ a + 1 < Int.ofNat n) ∨ (0 < n ∧ (l = 2 ∨ l = 3 ∨ l = 4))
noncomputable def gvH (n : Nat) (l : Nat) (f : Nat → Nat → AV) (ln : Int) (h : Int) (a : Int) (S : MS) (FT : Nat → Nat → AV) : List (Nat × AO) := [(gnm 0, .arr tab.length (tab.map kindOfV) true 1 FT), (1, .cells 4 [.sym .i64 ln, .sym .u64 h, .ss 1 2 0 n none, .sym .i64 a]), (2, .arr 1 [.int .i64] false l f), (3, .cells 9 (.map 4 :: lsL S.st S.L)), (4, .map 115 S.M)]
noncomputable def gvR (n : Nat) (l : Nat) (f : Nat → Nat → AV) (ln : Int) (h : Int) (a : Int) (S : MS) (FT : Nat → Nat → AV) : LR := ⟨4, .symb (decide ((gvX n (kOf f) S (GO.mk ln h a)).ln = 0)), [(gnm 0, .arr tab.length (tab.map kindOfV) true 1 FT), (1, .cells 4 [.sym .i64 (gvX n (kOf f) S (GO.mk ln h a)).ln, .sym .u64 (gvX n (kOf f) S (GO.mk ln h a)).h, .ss 1 2 0 n none, .sym .i64 (gvX n (kOf f) S (GO.mk ln h a)).at_]), (2, .arr 1 [.int .i64] false l f), (3, .cells 9 (.map 4 :: lsL (gvY n (kOf f) S (GO.mk ln h a)).st (gvY n (kOf f) S (GO.mk ln h a)).L)), (4, .map 115 (gvY n (kOf f) S (GO.mk ln h a)).M)], 0, [1, 3, 4], [FT = tabF tab, U64 S, GLn n ln a, n ≤ l, R64 h, n ≤ 1000000]⟩

end Go.Proofs.YtmndhjodbnojdaaDoor
