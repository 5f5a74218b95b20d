/-
  Histories: where no call was taken: definitions.
-/
import Derived.Test.YtnecknppajbcdaaEvAlt
import Derived.Test.YtnecknppajbcdaaHs3
set_option linter.unusedSimpArgs false
set_option linter.unusedVariables false
namespace Go.Proofs.Ytnecknppajbcdaa
open Go.Ev

noncomputable def beg0tH (t o ky va s last : Int) : List (Nat × AO) := [(1, .cells 3 [.nils, .nilm, .sym .i64 last])]
noncomputable def beg0tR (t o ky va s last : Int) : LR := ⟨1, .tup [.sym .i64 0, .sym .i64 0], [(1, .cells 3 [.ss 9 2 0 1 none, .map 3, .sym .i64 s]), (2, .arr 9 cSh false 1 (cF (fun _ => mkCl t o ky va s))), (3, .map 76 (setKey (fun _ => none) [t] (some 0)))], 2, [1], [((bgE last (-1) t o s) == 0) = true]⟩
noncomputable def beg0fH (t o ky va s last : Int) : List (Nat × AO) := [(1, .cells 3 [.nils, .nilm, .sym .i64 last])]
noncomputable def beg0fR (t o ky va s last : Int) : LR := ⟨1, .tup [.sym .i64 (-1), .sym .i64 (bgE last (-1) t o s)], [(1, .cells 3 [.nils, .nilm, .sym .i64 last])], 0, [], [((bgE last (-1) t o s) == 0) = false]⟩
noncomputable def pnt0H (c an va s last : Int) : List (Nat × AO) := [(1, .cells 3 [.nils, .nilm, .sym .i64 last])]
noncomputable def pnt0R (c an va s last : Int) : LR := ⟨1, .sym .i64 1, [(1, .cells 3 [.nils, .nilm, .sym .i64 last])], 0, [], []⟩
noncomputable def hen0H (c s last : Int) : List (Nat × AO) := [(1, .cells 3 [.nils, .nilm, .sym .i64 last])]
noncomputable def hen0R (c s last : Int) : LR := ⟨1, .sym .i64 1, [(1, .cells 3 [.nils, .nilm, .sym .i64 last])], 0, [], []⟩
end Go.Proofs.Ytnecknppajbcdaa
