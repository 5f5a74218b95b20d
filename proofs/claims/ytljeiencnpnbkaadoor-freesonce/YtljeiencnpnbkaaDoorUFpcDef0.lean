/-
  UFpcDef0 and what follows it.
-/
import Derived.Test.YtljeiencnpnbkaaDoorUFpb
/-
  FreesOnce: the second loop: definitions.
-/
set_option linter.unusedSimpArgs false
set_option linter.unusedVariables false
namespace Go.Proofs.YtljeiencnpnbkaaDoor
open Go.Ev
noncomputable abbrev foM : Code := loopAt Tryd.prog 8 1
noncomputable abbrev foN : Code := loopAt Tryd.prog 8 2
noncomputable def fmS (m : Nat) (f : Nat → Nat → AV) (n : Nat) (S : MS) (T : Nat → FW) (i : Nat) : FSt := ⟨[.top, .ss 1 1 0 m none, .top, .top, .top, .sym .i64 (Int.ofNat n), .ptr 3 0 0, .top, .ss 3 5 0 6 (some 6), .top, .sym .i64 (Int.ofNat i)] ++ List.replicate 159 .top, [(gnm 0, tabAO tab), (3, .cells 9 (.map 2 :: lsL S.st S.L)), (2, .map 110 S.M), (1, .arr 1 [.int .u8] true m f)], 6, fun k => foMb (T k), [5, 3, 2]⟩
noncomputable def fnS (m : Nat) (f : Nat → Nat → AV) (n : Nat) (S : MS) (T : Nat → FW) (i k : Nat) : FSt := ⟨[.top, .ss 1 1 0 m none, .top, .top, .top, .sym .i64 (Int.ofNat n), .ptr 3 0 0, .top, .ss 3 5 0 6 (some 6), .top, .sym .i64 (Int.ofNat i), .sym .i64 (Int.ofNat k)] ++ List.replicate 158 .top, [(gnm 0, tabAO tab), (3, .cells 9 (.map 2 :: lsL S.st S.L)), (2, .map 110 S.M), (1, .arr 1 [.int .u8] true m f)], 6, fun k => foMb (T k), [5, 3, 2]⟩
theorem fmGood {m : Nat} {f : Nat → Nat → AV} {n : Nat} {S : MS} {T : Nat → FW} {i : Nat} : FGood foF (fmS m f n S T i) := ⟨⟨by kernel_rfl, by kernel_rfl, fun i _ => foMb_ok _⟩, by show 6 ≤ 1000000; omega⟩
theorem fnGood {m : Nat} {f : Nat → Nat → AV} {n : Nat} {S : MS} {T : Nat → FW} {i k : Nat} : FGood foF (fnS m f n S T i k) := ⟨⟨by kernel_rfl, by kernel_rfl, fun i _ => foMb_ok _⟩, by show 6 ≤ 1000000; omega⟩
noncomputable def fmP : Code := fstC foM
noncomputable def fmB : Code := inBlock (fstC (sndC foM))
noncomputable def fmK : Code := fstC (fstC fmB)
noncomputable def fmI : Code := sndC fmB
noncomputable def fmZ : Code := sndC (sndC foM)
theorem foM_eq : foM = .seq fmP (.seq (.block 3 (.seq (.seq fmK (.block 4 (.loop foN))) fmI)) fmZ) := by kernel_rfl
end Go.Proofs.YtljeiencnpnbkaaDoor

/-
  FreesOnce: a step in the second loop: definitions.
-/
set_option linter.unusedSimpArgs false
set_option linter.unusedVariables false
namespace Go.Proofs.YtljeiencnpnbkaaDoor
open Go.Ev


end Go.Proofs.YtljeiencnpnbkaaDoor
