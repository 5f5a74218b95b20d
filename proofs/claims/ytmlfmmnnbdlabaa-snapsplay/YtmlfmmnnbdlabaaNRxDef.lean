/-
  Chapter 14: the document's Taker: the first line: definitions.
-/
import Derived.Test.YtmlfmmnnbdlabaaNRu
set_option linter.unusedSimpArgs false
set_option linter.unusedVariables false
namespace Go.Proofs.Ytmlfmmnnbdlabaa
open Go.Ev

noncomputable def rlxH (s2 : Int) (L2 : LS) (k l : Nat) (g : Nat → Nat → AV) : List (Nat × AO) := [(1, .cells 5 [.int .i64 1, .nils, .int .u64 0, .int .i64 0, .int .i64 0]), (2, .cells 9 (.ss 4 3 0 k none :: lsL s2 L2)), (3, .arr 4 wSh false l g)]
noncomputable def rlxR (s2 : Int) (L2 : LS) (k l : Nat) (g : Nat → Nat → AV) : LR := ⟨3, .tup [], [(1, .cells 5 [.int .i64 2, .nils, .int .u64 0, .sym .i64 (rbN k g), .int .i64 0]), (2, .cells 9 (.ss 4 3 0 k none :: lsL (rLoad (mkR k g s2 L2) 5 0 0).st (rLoad (mkR k g s2 L2) 5 0 0).L)), (3, .arr 4 wSh false l g)], 0, [1, 2], [k ≤ l, k ≤ 100000, 0 ≤ dWord (dOf k g) 5 0 0, 4 < dWord (dOf k g) 5 0 0]⟩
noncomputable def rlyH (s2 : Int) (L2 : LS) (k l : Nat) (g : Nat → Nat → AV) : List (Nat × AO) := [(1, .cells 5 [.int .i64 1, .nils, .int .u64 0, .int .i64 0, .int .i64 0]), (2, .cells 9 (.ss 4 3 0 k none :: lsL s2 L2)), (3, .arr 4 wSh false l g)]
noncomputable def rlyR (s2 : Int) (L2 : LS) (k l : Nat) (g : Nat → Nat → AV) : LR := ⟨3, .tup [], [(1, .cells 5 [.int .i64 2, .nils, .int .u64 0, .sym .i64 (rbN k g), .int .i64 0]), (2, .cells 9 (.ss 4 3 0 k none :: lsL (rLoad (mkR k g s2 L2) 5 0 0).st (rLoad (mkR k g s2 L2) 5 0 0).L)), (3, .arr 4 wSh false l g)], 0, [1, 2], [k ≤ l, k ≤ 100000, 0 ≤ dWord (dOf k g) 5 0 0, ¬ 4 < dWord (dOf k g) 5 0 0, dWord (dOf k g) 5 0 0 ≠ 0]⟩
noncomputable def rlzH (s2 : Int) (L2 : LS) (k l : Nat) (g : Nat → Nat → AV) : List (Nat × AO) := [(1, .cells 5 [.int .i64 1, .nils, .int .u64 0, .int .i64 0, .int .i64 0]), (2, .cells 9 (.ss 4 3 0 k none :: lsL s2 L2)), (3, .arr 4 wSh false l g)]
noncomputable def rlzR (s2 : Int) (L2 : LS) (k l : Nat) (g : Nat → Nat → AV) : LR := ⟨3, .tup [], [(1, .cells 5 [.int .i64 0, .nils, .int .u64 0, .sym .i64 (rbN k g), .int .i64 0]), (2, .cells 9 (.ss 4 3 0 k none :: lsL (rLoad (mkR k g s2 L2) 5 0 0).st (rLoad (mkR k g s2 L2) 5 0 0).L)), (3, .arr 4 wSh false l g)], 0, [1, 2], [k ≤ l, k ≤ 100000, 0 ≤ dWord (dOf k g) 5 0 0, ¬ 4 < dWord (dOf k g) 5 0 0, dWord (dOf k g) 5 0 0 = 0]⟩
end Go.Proofs.Ytmlfmmnnbdlabaa
