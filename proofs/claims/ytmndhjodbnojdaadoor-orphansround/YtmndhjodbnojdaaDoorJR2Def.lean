/-
  The document's words: Field: definitions.
-/
import Derived.Test.YtmndhjodbnojdaaDoorJR1
set_option linter.unusedSimpArgs false
set_option linter.unusedVariables false
namespace Go.Proofs.YtmndhjodbnojdaaDoor
open Go.Ev
noncomputable def ER1 : Env := envG Tryd.prog [(177, locSP rbitSpec)]
theorem ER1_ok : EnvOk ER1 := envG_ok mgood ⟨locSP_ok rbitSpec_ok, trivial⟩

noncomputable def rflU (w a b : Int) : St := ⟨[.sym .u64 w, .sym .i64 a, .sym .i64 b, .top, .top, .top, .top, .int .u64 0, .sym .i64 b] ++ List.replicate 13 .top, ⟨[], 1, gnm 0, [], [], [], false⟩⟩
noncomputable def rflT (w a b : Int) (i : Nat) : St := ⟨[.sym .u64 w, .sym .i64 a, .sym .i64 b, .top, .top, .top, .top, .sym .u64 (w / 2 ^ (b.toNat + 1 - i) % 2 ^ i), .sym .i64 (b - Int.ofNat i)] ++ List.replicate 13 .top, ⟨[], 1, gnm 0, [], [], [], false⟩⟩
noncomputable def rflX (w a b : Int) (i : Nat) : St := ⟨[.top, .top, .top, .top, .top, .top, .top, .sym .u64 (w / 2 ^ (b.toNat + 1 - i) % 2 ^ i)] ++ List.replicate 14 .top, ⟨[], 1, gnm 0, [], [], [], false⟩⟩
noncomputable abbrev rflL : Code := loopAt Tryd.prog 172 0
noncomputable def rflLP (w a b : Int) : Prop := LoopHolds Tryd.prog rflL (rflU w a b) (.exit 0) (rflX w a b ((b + 1 - a).toNat))
noncomputable def rfldH (w a b : Int) : List (Nat × AO) := []
noncomputable def rfldR (w a b : Int) : LR := ⟨0, .sym .u64 (fldI w a b), [], 0, [], [0 ≤ w, w < 18446744073709551616, 0 ≤ a, a ≤ b, b ≤ 63]⟩
end Go.Proofs.YtmndhjodbnojdaaDoor
