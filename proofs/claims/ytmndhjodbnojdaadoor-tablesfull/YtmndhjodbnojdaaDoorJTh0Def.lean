/-
  joinedOver: its loop: definitions.
-/
import Derived.Test.YtmndhjodbnojdaaDoorJTg1
set_option linter.unusedSimpArgs false
set_option linter.unusedVariables false
namespace Go.Proofs.YtmndhjodbnojdaaDoor
open Go.Ev

noncomputable def ETo : Env := envG Tryd.prog ([(29, locSP jddSpec), (30, locSP lddSpec)] ++ memSP)
theorem ETo_ok : EnvOk ETo := envG_ok mgood ⟨locSP_ok jddSpec_ok, locSP_ok lddSpec_ok, memSP_ok⟩
theorem ovS_u {S : MS} {w : Int} (h : U64 S) (hw : R64 w) (i : Nat) : U64 (ovS S w i) := by
  unfold ovS
  split
  · unfold ov8
    exact (((((((h.load _ _ _).store _ _ _ _ hw).store _ _ _ _ hw).store _ _ _ _ hw).store _ _ _ _ hw).store _ _ _ _ hw).store _ _ _ _ hw).store _ _ _ _ hw |>.store _ _ _ _ hw
  · exact h
theorem ovN_u {S : MS} {w : Int} (h : U64 S) (hw : R64 w) : ∀ i, U64 (ovN w S i)
  | 0 => h
  | i + 1 => ovS_u (ovN_u h hw i) hw i
theorem ovN_t {S : MS} {w : Int} {i : Nat} (h : mget (ovN w S i).M (key 8 (Int.ofNat i) 0) = 0) : ovN w S (i + 1) = ov8 (mLoad (ovN w S i) 8 (Int.ofNat i) 0) (Int.ofNat i) w := by
  show ovS _ _ _ = _
  unfold ovS; rw [decide_eq_true h]
theorem ovN_f {S : MS} {w : Int} {i : Nat} (h : ¬ mget (ovN w S i).M (key 8 (Int.ofNat i) 0) = 0) : ovN w S (i + 1) = mLoad (ovN w S i) 8 (Int.ofNat i) 0 := by
  show ovS _ _ _ = _
  unfold ovS; rw [decide_eq_false h]
noncomputable def ovlU (o : Int) (x : Int) (S : MS) : St := ⟨[.ptr 1 0 0, .sym .i64 o, .sym .u64 x, .top, .top, .top, .int .i64 0, .int .i64 0, .int .i64 0, .int .i64 0] ++ List.replicate 26 .top, ⟨[(gnm 0, tabAO tab), (1, .cells 9 (.map 2 :: lsL S.st S.L)), (2, .map 115 S.M)], 3, gnm 0, [], [], [], false⟩⟩
noncomputable def ovlT (o : Int) (x : Int) (S : MS) (i : Nat) : St := ⟨[.ptr 1 0 0, .sym .i64 o, .sym .u64 x, .top, .top, .top, .int .i64 0, .int .i64 0, .int .i64 0, .sym .i64 (Int.ofNat i)] ++ List.replicate 26 .top, ⟨[(gnm 0, tabAO tab), (1, .cells 9 (.map 2 :: lsL (ovN x S i).st (ovN x S i).L)), (2, .map 115 (ovN x S i).M)], 3, gnm 0, [], [], [1, 2], false⟩⟩
noncomputable def ovlX (o : Int) (x : Int) (S : MS) (i : Nat) : St := ⟨[.ptr 1 0 0, .sym .i64 o, .sym .u64 x, .top, .top, .top, .int .i64 0, .int .i64 0, .int .i64 0] ++ List.replicate 27 .top, ⟨[(gnm 0, tabAO tab), (1, .cells 9 (.map 2 :: lsL (ovN x S i).st (ovN x S i).L)), (2, .map 115 (ovN x S i).M)], 3, gnm 0, [], [], [1, 2], false⟩⟩
noncomputable abbrev ovlL : Code := loopAt Tryd.prog 27 0
noncomputable def ovlLP (o : Int) (x : Int) (S : MS) : Prop := LoopHolds Tryd.prog ovlL (ovlU o x S) (.exit 0) (ovlX o x S 16)
end Go.Proofs.YtmndhjodbnojdaaDoor
