/-
  The document's words: bit: definitions.
-/
import Derived.Test.YtmndhjodbnojdaaDoorJMemDef
import Derived.Test.YtmndhjodbnojdaaDoorEvBits
set_option linter.unusedSimpArgs false
set_option linter.unusedVariables false
namespace Go.Proofs.YtmndhjodbnojdaaDoor
open Go.Ev

noncomputable def rblU (w b : Int) : St := ⟨[.sym .u64 w, .sym .i64 b, .top, .top, .top, .int .i64 0] ++ List.replicate 9 .top, ⟨[], 1, gnm 0, [], [], [], false⟩⟩
noncomputable def rblT (w b : Int) (i : Nat) : St := ⟨[.sym .u64 (w / 2 ^ i), .sym .i64 b, .top, .top, .top, .sym .i64 (Int.ofNat i)] ++ List.replicate 9 .top, ⟨[], 1, gnm 0, [], [], [], false⟩⟩
noncomputable def rblX (w b : Int) (i : Nat) : St := ⟨[.sym .u64 (w / 2 ^ i), .sym .i64 b] ++ List.replicate 13 .top, ⟨[], 1, gnm 0, [], [], [], false⟩⟩
noncomputable abbrev rblL : Code := loopAt Tryd.prog 177 0
noncomputable def rblLP (w b : Int) : Prop := LoopHolds Tryd.prog rblL (rblU w b) (.exit 0) (rblX w b b.toNat)
noncomputable def rbitH (w b : Int) : List (Nat × AO) := []
noncomputable def rbitR (w b : Int) : LR := ⟨0, .sym .u64 (bitI w b), [], 0, [], [0 ≤ w, w < 18446744073709551616, 0 ≤ b, b ≤ 64]⟩
end Go.Proofs.YtmndhjodbnojdaaDoor
