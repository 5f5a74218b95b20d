/-
  FreesStack: the first loop, inside: definitions.
-/
import Derived.Test.YtmndhjodbnojdaaDoorJFkDef
set_option linter.unusedSimpArgs false
set_option linter.unusedVariables false
namespace Go.Proofs.YtmndhjodbnojdaaDoor
open Go.Ev

noncomputable def fkiU (m : Nat) (f : Nat → Nat → AV) (n : Nat) (E : Nat → Int) (j : Nat) : St := ⟨[.ss 1 1 0 m none, .top, .bool false, .ss 1 2 0 n none, .sym .i64 (Int.ofNat j), .bool false, .int .i64 0] ++ List.replicate 215 .top, ⟨[(gnm 0, tabAO tab), (1, .arr 1 [.int .u8] true m f), (2, .arr 1 [.int .i64] false n (LF E))], 3, gnm 0, [], [], [], false⟩⟩
noncomputable def fkiT (m : Nat) (f : Nat → Nat → AV) (n : Nat) (E : Nat → Int) (j : Nat) (i : Nat) : St := ⟨[.ss 1 1 0 m none, .top, .bool false, .ss 1 2 0 n none, .sym .i64 (Int.ofNat j), .symb (hadB E (IntKind.i64.wrap (avInt (f (0 + j) 0))) i), .sym .i64 (Int.ofNat i)] ++ List.replicate 215 .top, ⟨[(gnm 0, tabAO tab), (1, .arr 1 [.int .u8] true m f), (2, .arr 1 [.int .i64] false n (LF E))], 3, gnm 0, [], [], [], false⟩⟩
noncomputable def fkiX (m : Nat) (f : Nat → Nat → AV) (n : Nat) (E : Nat → Int) (j : Nat) (i : Nat) : St := ⟨[.ss 1 1 0 m none, .top, .bool false, .ss 1 2 0 n none, .sym .i64 (Int.ofNat j), .symb (hadB E (IntKind.i64.wrap (avInt (f (0 + j) 0))) i)] ++ List.replicate 216 .top, ⟨[(gnm 0, tabAO tab), (1, .arr 1 [.int .u8] true m f), (2, .arr 1 [.int .i64] false n (LF E))], 3, gnm 0, [], [], [], false⟩⟩
noncomputable abbrev fkiL : Code := loopAt Tryd.prog 3 1
noncomputable def fkiLP (m : Nat) (f : Nat → Nat → AV) (n : Nat) (E : Nat → Int) (j : Nat) : Prop := LoopHolds Tryd.prog fkiL (fkiU m f n E j) (.exit 2) (fkiX m f n E j n)
end Go.Proofs.YtmndhjodbnojdaaDoor
