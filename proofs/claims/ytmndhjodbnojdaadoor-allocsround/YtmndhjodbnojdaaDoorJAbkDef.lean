/-
  Begin: the inner loop: definitions.
-/
import Derived.Test.YtmndhjodbnojdaaDoorJAbDef
set_option linter.unusedSimpArgs false
set_option linter.unusedVariables false
namespace Go.Proofs.YtmndhjodbnojdaaDoor
open Go.Ev

theorem bgK_u {S : MS} (h : U64 S) (i : Nat) : ∀ k, U64 (bgK S i k)
  | 0 => h
  | k + 1 => (psS_u (bgK_u h i k) _).2.2
theorem not_f {b : Bool} (h : b = true) : (!b) = false := by rw [h]; rfl
theorem bne_f {a b : Int} (h : a = b) : (a != b) = false := by rw [h]; simp
noncomputable def abkU (a : Int) (S : MS) (j : Nat) : St := ⟨[.sym .i64 a, .top, .nilp, .bool false, .ptr 2 0 0, .sym .i64 (Int.ofNat j), .int .i64 0] ++ List.replicate 36 .top, ⟨[(gnm 0, tabAO tab), (2, .cells 9 (.map 1 :: lsL (bgK S j 0).st (bgK S j 0).L)), (1, .map 115 (bgK S j 0).M)], 3, gnm 0, [], [], [2, 1], false⟩⟩
noncomputable def abkT (a : Int) (S : MS) (j : Nat) (i : Nat) : St := ⟨[.sym .i64 a, .top, .nilp, .bool false, .ptr 2 0 0, .sym .i64 (Int.ofNat j), .sym .i64 (Int.ofNat i)] ++ List.replicate 36 .top, ⟨[(gnm 0, tabAO tab), (2, .cells 9 (.map 1 :: lsL (bgK S j i).st (bgK S j i).L)), (1, .map 115 (bgK S j i).M)], 3, gnm 0, [], [], [2, 1], false⟩⟩
noncomputable def abkX (a : Int) (S : MS) (j : Nat) (i : Nat) : St := ⟨[.sym .i64 a, .top, .nilp, .bool false, .ptr 2 0 0, .sym .i64 (Int.ofNat j)] ++ List.replicate 37 .top, ⟨[(gnm 0, tabAO tab), (2, .cells 9 (.map 1 :: lsL (bgK S j i).st (bgK S j i).L)), (1, .map 115 (bgK S j i).M)], 3, gnm 0, [], [], [2, 1], false⟩⟩
noncomputable abbrev abkL : Code := loopAt Tryd.prog 49 1
noncomputable def abkLP (a : Int) (S : MS) (j : Nat) : Prop := LoopHolds Tryd.prog abkL (abkU a S j) (.exit 2) (abkX a S j 8)
end Go.Proofs.YtmndhjodbnojdaaDoor
