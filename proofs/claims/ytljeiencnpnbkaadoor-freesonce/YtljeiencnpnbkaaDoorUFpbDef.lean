/-
  FreesOnce: the first loop: definitions.
-/
import Derived.Test.YtljeiencnpnbkaaDoorUFpa
import Derived.Test.YtljeiencnpnbkaaDoorEvFk
set_option linter.unusedSimpArgs false
set_option linter.unusedVariables false
namespace Go.Proofs.YtljeiencnpnbkaaDoor
open Go.Ev

noncomputable def flE (m : Nat) (f : Nat → Nat → AV) (n : Nat) (S : MS) (T : Nat → FW) : FSt := ⟨[.top, .ss 1 1 0 m none, .top, .top, .top, .sym .i64 (Int.ofNat n), .ptr 3 0 0, .top, .ss 3 5 0 6 (some 6)] ++ List.replicate 161 .top, [(gnm 0, tabAO tab), (3, .cells 9 (.map 2 :: lsL S.st S.L)), (2, .map 110 S.M), (1, .arr 1 [.int .u8] true m f)], 6, fun k => foMb (T k), [5, 3, 2]⟩
theorem flGoodE {m : Nat} {f : Nat → Nat → AV} {n : Nat} {S : MS} {T : Nat → FW} : FGood foF (flE m f n S T) := ⟨⟨by kernel_rfl, by kernel_rfl, fun i _ => foMb_ok _⟩, by show 6 ≤ 1000000; omega⟩

end Go.Proofs.YtljeiencnpnbkaaDoor
