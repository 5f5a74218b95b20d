/-
  JRcDef0 and what follows it.
-/
import Derived.Test.YtmndhjodbnojdaaDoorJRdLaw
import Derived.Test.YtmndhjodbnojdaaDoorJBeg
/-
  OrphansRound: the links: definitions.
-/
set_option linter.unusedSimpArgs false
set_option linter.unusedVariables false
namespace Go.Proofs.YtmndhjodbnojdaaDoor
open Go.Ev
/-- A slot's link is stored. -/
abbrev orV (m : Nat) (f : Nat → Nat → AV) (i : Nat) : Int := IntKind.u64.wrap (IntKind.u64.wrap (avInt (f (0 + ((IntKind.i64.wrap (Int.ofNat i + 1)).tmod (Int.ofNat m)).toNat) 0)) + 1)
abbrev orA (f : Nat → Nat → AV) (i : Nat) : Int := IntKind.i64.wrap (avInt (f (0 + i) 0))
noncomputable def orS (m : Nat) (f : Nat → Nat → AV) : Nat → MS
  | 0 => ms0
  | i + 1 => mStore (orS m f i) 9 (orA f i) 2 (orV m f i)
noncomputable def orR (m : Nat) (f : Nat → Nat → AV) : Nat → RS
  | 0 => rs0
  | i + 1 => rStore (orR m f i) 9 (orA f i) 2 (orV m f i)
noncomputable def EOq : Env := envG Tryd.prog ([(44, locSP pstSpec)] ++ memSP)
theorem EOq_ok : EnvOk EOq := envG_ok mgood ⟨locSP_ok pstSpec_ok, memSP_ok⟩
theorem or_both (m : Nat) (f : Nat → Nat → AV) : ∀ i, Both (orS m f i) (orR m f i)
  | 0 => Both.nil
  | i + 1 => (or_both m f i).store _ _ _ _
theorem or_n (m : Nat) (f : Nat → Nat → AV) : ∀ i, (orR m f i).D.n ≤ i
  | 0 => Nat.le_refl _
  | i + 1 => by
    have := (dPut_n (orR m f i).D 9 (orA f i) 2 (orV m f i)).1
    have h := or_n m f i
    show (dPut _ _ _ _ _).n ≤ _
    omega
end Go.Proofs.YtmndhjodbnojdaaDoor

/-
  OrphansRound: the links: definitions.
-/
set_option linter.unusedSimpArgs false
set_option linter.unusedVariables false
namespace Go.Proofs.YtmndhjodbnojdaaDoor
open Go.Ev

noncomputable def orsU (m : Nat) (f : Nat → Nat → AV) : St := ⟨[.ss 1 1 0 m none, .top, .top, .ptr 7 0 0, .int .i64 0] ++ List.replicate 86 .top, ⟨[(7, .cells 2 [.ptr 4 0 0, .ptr 5 0 0]), (6, .cells 2 [.ptr 4 0 0, .ptr 5 0 0]), (5, .cells 9 [.nils, .int .i64 0, .int .u8 0, .int .u8 0, .int .i64 0, .int .i64 0, .int .u64 0, .int .u64 0, .bool false]), (4, .cells 9 [.map 3, .int .i64 0, .int .u8 0, .int .u8 0, .int .i64 0, .int .i64 0, .int .u64 0, .int .u64 0, .bool false]), (3, .map 115 fun _ => none), (2, .cells 2 [.ptr 4 0 0, .ptr 5 0 0]), (gnm 0, tabAO tab), (1, .arr 1 [.int .u8] true m f)], 8, gnm 0, [], [], [7, 2, 6], false⟩⟩
noncomputable def orsT (m : Nat) (f : Nat → Nat → AV) (i : Nat) : St := ⟨[.ss 1 1 0 m none, .top, .top, .ptr 7 0 0, .sym .i64 (Int.ofNat i)] ++ List.replicate 86 .top, ⟨[(7, .cells 2 [.ptr 4 0 0, .ptr 5 0 0]), (gnm 0, tabAO tab), (1, .arr 1 [.int .u8] true m f), (4, .cells 9 (.map 3 :: lsL (orS m f i).st (orS m f i).L)), (3, .map 115 (orS m f i).M), (5, .cells 9 (.ss 4 8 0 (orR m f i).D.n none :: lsL (orR m f i).st (orR m f i).L)), (8, .arr 4 wSh false (orR m f i).D.n (wdF (orR m f i).D.W))], 9, gnm 0, [], [], [3, 4, 5, 8, 7, 2, 6], false⟩⟩
noncomputable def orsX (m : Nat) (f : Nat → Nat → AV) (i : Nat) : St := ⟨[.ss 1 1 0 m none, .top, .top, .ptr 7 0 0] ++ List.replicate 87 .top, ⟨[(7, .cells 2 [.ptr 4 0 0, .ptr 5 0 0]), (gnm 0, tabAO tab), (1, .arr 1 [.int .u8] true m f), (4, .cells 9 (.map 3 :: lsL (orS m f i).st (orS m f i).L)), (3, .map 115 (orS m f i).M), (5, .cells 9 (.ss 4 8 0 (orR m f i).D.n none :: lsL (orR m f i).st (orR m f i).L)), (8, .arr 4 wSh false (orR m f i).D.n (wdF (orR m f i).D.W))], 9, gnm 0, [], [], [3, 4, 5, 8, 7, 2, 6], false⟩⟩
noncomputable abbrev orsL : Code := loopAt Tryd.prog 8 0
noncomputable def orsLP (m : Nat) (f : Nat → Nat → AV) : Prop := LoopHolds Tryd.prog orsL (orsU m f) (.exit 0) (orsX m f m)
end Go.Proofs.YtmndhjodbnojdaaDoor
