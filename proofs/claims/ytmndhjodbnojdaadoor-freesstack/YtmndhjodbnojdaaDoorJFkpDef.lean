/-
  FreesStack: the second loop: pushes: definitions.
-/
import Derived.Test.YtmndhjodbnojdaaDoorJFka
set_option linter.unusedSimpArgs false
set_option linter.unusedVariables false
namespace Go.Proofs.YtmndhjodbnojdaaDoor
open Go.Ev

noncomputable def fkS (E : Nat → Int) : Nat → MS
  | 0 => ms0
  | i + 1 => psS3 (fkS E i) (E (0 + i))
theorem psS_u {S : MS} (h : U64 S) (s : Int) : U64 (psS1 S s) ∧ U64 (psS2 S s) ∧ U64 (psS3 S s) := ⟨pshY_u h, pshY_u (pshY_u h), pshY_u (pshY_u (pshY_u h))⟩
theorem psO_ok {S : MS} (h : U64 S) (s : Int) : UoOk (psO1 S s) ∧ UoOk (psO2 S s) := ⟨pshX_ok h (uo0_ok s), pshX_ok (pshY_u h) (pshX_ok h (uo0_ok s))⟩
theorem ppS_u {S : MS} (h : U64 S) : U64 (ppS1 S) ∧ U64 (ppS2 S) ∧ U64 (ppS3 S) := ⟨popY_u h, popY_u (popY_u h), popY_u (popY_u (popY_u h))⟩
theorem ppO_ok {S : MS} (h : U64 S) : PoOk (ppO1 S) ∧ PoOk (ppO2 S) := ⟨popX_ok h po0_ok, popX_ok (popY_u h) (popX_ok h po0_ok)⟩
theorem fkS_u (E : Nat → Int) : ∀ i, U64 (fkS E i)
  | 0 => U64.nil
  | i + 1 => (psS_u (fkS_u E i) _).2.2
theorem one_line (l : Int) (h : l = 1) : l = 0 ∨ l = 1 ∨ l = 2 ∨ l = 3 := .inr (.inl h)
noncomputable def fkpU (m : Nat) (f : Nat → Nat → AV) (n : Nat) (E : Nat → Int) : St := ⟨[.top, .top, .bool false, .ss 1 2 0 n none, .top, .top, .top, .ptr 4 0 0, .int .i64 0] ++ List.replicate 213 .top, ⟨[(4, .cells 9 [.map 3, .int .i64 0, .int .u8 0, .int .u8 0, .int .i64 0, .int .i64 0, .int .u64 0, .int .u64 0, .bool false]), (3, .map 115 fun _ => none), (gnm 0, tabAO tab), (1, .arr 1 [.int .u8] true m f), (2, .arr 1 [.int .i64] false n (LF E))], 5, gnm 0, [], [], [], false⟩⟩
noncomputable def fkpT (m : Nat) (f : Nat → Nat → AV) (n : Nat) (E : Nat → Int) (i : Nat) : St := ⟨[.top, .top, .bool false, .ss 1 2 0 n none, .top, .top, .top, .ptr 4 0 0, .sym .i64 (Int.ofNat i)] ++ List.replicate 213 .top, ⟨[(gnm 0, tabAO tab), (2, .arr 1 [.int .i64] false n (LF E)), (4, .cells 9 (.map 3 :: lsL (fkS E i).st (fkS E i).L)), (3, .map 115 (fkS E i).M)], 5, gnm 0, [], [], [4, 3], false⟩⟩
noncomputable def fkpX (m : Nat) (f : Nat → Nat → AV) (n : Nat) (E : Nat → Int) (i : Nat) : St := ⟨[.top, .top, .bool false, .ss 1 2 0 n none, .top, .top, .top, .ptr 4 0 0] ++ List.replicate 214 .top, ⟨[(gnm 0, tabAO tab), (2, .arr 1 [.int .i64] false n (LF E)), (4, .cells 9 (.map 3 :: lsL (fkS E i).st (fkS E i).L)), (3, .map 115 (fkS E i).M)], 5, gnm 0, [], [], [4, 3], false⟩⟩
noncomputable abbrev fkpL : Code := loopAt Tryd.prog 3 2
noncomputable def fkpLP (m : Nat) (f : Nat → Nat → AV) (n : Nat) (E : Nat → Int) : Prop := LoopHolds Tryd.prog fkpL (fkpU m f n E) (.exit 4) (fkpX m f n E n)
end Go.Proofs.YtmndhjodbnojdaaDoor
