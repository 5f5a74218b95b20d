/-
  AllocsRound: the loop: definitions.
-/
import Derived.Test.YtmndhjodbnojdaaDoorJArLaw
set_option linter.unusedSimpArgs false
set_option linter.unusedVariables false
namespace Go.Proofs.YtmndhjodbnojdaaDoor
open Go.Ev

theorem u32_r (x : Int) : 0 ≤ IntKind.u32.wrap x ∧ IntKind.u32.wrap x < 4294967296 := by show 0 ≤ x % 4294967296 ∧ x % 4294967296 < 4294967296; omega
theorem nt_f : (!true) = false := rfl
noncomputable def arlU (w : Int) : St := ⟨[.top, .top, .bool false, .sym .u32 w, .ptr 1 0 0, .symb true, .top, .int .u32 0] ++ List.replicate 114 .top, ⟨[(gnm 0, tabAO tab), (1, .cells 9 (.map 2 :: lsL arB.st arB.L)), (2, .map 115 arB.M)], 3, gnm 0, [], [], [1, 2], false⟩⟩
noncomputable def arlT (w : Int) (i : Nat) : St := ⟨[.top, .top, .bool false, .sym .u32 w, .ptr 1 0 0, .symb true, .top, .sym .u32 (Int.ofNat i)] ++ List.replicate 114 .top, ⟨[(gnm 0, tabAO tab), (1, .cells 9 (.map 2 :: lsL (arM w i).st (arM w i).L)), (2, .map 115 (arM w i).M)], 3, gnm 0, [], [], [1, 2], false⟩⟩
noncomputable def arlX (w : Int) (i : Nat) : St := ⟨[.top, .top, .bool false, .sym .u32 w, .ptr 1 0 0, .symb true] ++ List.replicate 116 .top, ⟨[(gnm 0, tabAO tab), (1, .cells 9 (.map 2 :: lsL (arM w i).st (arM w i).L)), (2, .map 115 (arM w i).M)], 3, gnm 0, [], [], [1, 2], false⟩⟩
noncomputable abbrev arlL : Code := loopAt Tryd.prog 9 1
noncomputable def arlLP (w : Int) : Prop := LoopHolds Tryd.prog arlL (arlU w) (.exit 2) (arlX w (w.toNat + 1))
end Go.Proofs.YtmndhjodbnojdaaDoor
