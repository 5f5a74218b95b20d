/-
  The document's words: definitions.
-/
import Derived.Test.YtmndhjodbnojdaaDoorJR2
import Derived.Test.YtmndhjodbnojdaaDoorJR3
set_option linter.unusedSimpArgs false
set_option linter.unusedVariables false
namespace Go.Proofs.YtmndhjodbnojdaaDoor
open Go.Ev
noncomputable def ER4 : Env := envG Tryd.prog [(172, locSP rfldSpec), (173, locSP rputSpec)]
theorem ER4_ok : EnvOk ER4 := envG_ok mgood ⟨locSP_ok rfldSpec_ok, locSP_ok rputSpec_ok, trivial⟩

noncomputable def rashH (w : Int) : List (Nat × AO) := []
noncomputable def rashR (w : Int) : LR := ⟨0, .tup [.sym .i64 (hSlot w), .sym .u64 (hTag w)], [], 0, [], [0 ≤ w, w < 18446744073709551616]⟩
noncomputable def rhdH (s t : Int) : List (Nat × AO) := []
noncomputable def rhdR (s t : Int) : LR := ⟨0, .sym .u64 (hHead s t), [], 0, [], [0 ≤ t, t < 18446744073709551616]⟩
noncomputable def rahrH (w : Int) : List (Nat × AO) := []
noncomputable def rahrR (w : Int) : LR := ⟨0, .tup [.sym .u8 (hdrS w), .sym .u32 (hdrG w)], [], 0, [], [0 ≤ w, w < 18446744073709551616]⟩
end Go.Proofs.YtmndhjodbnojdaaDoor
