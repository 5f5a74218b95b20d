/-
  of: its contract: definitions.
-/
import Derived.Test.YtmndhjodbnojdaaDoorJPv
set_option linter.unusedSimpArgs false
set_option linter.unusedVariables false
namespace Go.Proofs.YtmndhjodbnojdaaDoor
open Go.Ev

noncomputable def EOf : Env := envG Tryd.prog ([(94, tabSP 0 tab hdrS)] ++ memSP)
theorem EOf_ok : EnvOk EOf := envG_ok mgood ⟨tabSP_ok rfl hdrS_ok, memSP_ok⟩
def ofE (s : Int) : Enty := ⟨s, IntKind.u32.wrap (IntKind.u32.wrap s + 3), false, IntKind.u64.wrap (IntKind.u64.wrap s + 1), IntKind.u64.wrap (IntKind.u64.wrap s + 5), IntKind.u64.wrap (IntKind.u64.wrap s + 9)⟩
def ofS (S : MS) (s : Int) : MS := mStore (mStore (mStore (mStore S 9 s 0 (hdr 2 (ofE s).gen)) 9 s 1 (ofE s).birth) 9 s 3 (ofE s).epoch) 9 s 4 (ofE s).era
theorem u32_r (x : Int) : 0 ≤ IntKind.u32.wrap x ∧ IntKind.u32.wrap x < 4294967296 := by show 0 ≤ x % 4294967296 ∧ x % 4294967296 < 4294967296; omega

noncomputable def of0H (S : MS) (s : Int) (FT : Nat → Nat → AV) : List (Nat × AO) := [(gnm 0, .arr tab.length (tab.map kindOfV) true 1 FT), (1, .cells 9 (.map 2 :: lsL S.st S.L)), (2, .map 115 S.M)]
noncomputable def of0R (S : MS) (s : Int) (FT : Nat → Nat → AV) : LR := ⟨2, .agg [.sym .i64 (ofE s).slot, .sym .u32 (ofE s).gen, .symb (ofE s).mark, .sym .u64 (ofE s).birth, .sym .u64 (ofE s).epoch, .sym .u64 (ofE s).era], [(gnm 0, .arr tab.length (tab.map kindOfV) true 1 FT), (1, .cells 9 (.map 2 :: lsL (ofS S s).st (ofS S s).L)), (2, .map 115 (ofS S s).M)], 0, [1, 2], [FT = tabF tab]⟩
end Go.Proofs.YtmndhjodbnojdaaDoor
