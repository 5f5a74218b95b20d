/-
  EpochsHold: the loop: definitions.
-/
import Derived.Test.YtmlfmmnnbdlabaaNEi
import Derived.Test.YtmlfmmnnbdlabaaEvBits
set_option linter.unusedSimpArgs false
set_option linter.unusedVariables false
namespace Go.Proofs.Ytmlfmmnnbdlabaa
open Go.Ev

def hdJ (r : Nat → AV) : Nat := ((avInt (r 0)).tmod 8).toNat
def hdA (r : Nat → AV) : Bool := (IntKind.u8.wrap ((avInt (r 0)).tdiv 8)).tmod 2 == 1
def hdN (f : Nat → Nat → AV) (e0 : Int) : Nat → HX
  | 0 => ⟨hdS0 e0, fun _ => ⟨0, false, 0, 0, 0⟩⟩
  | i + 1 => hdDo (hdN f e0 i) (hdJ (f (0 + i))) (hdA (f (0 + i)))
noncomputable def hdLP (m : Nat) (f : Nat → Nat → AV) (e0 : Int) : Prop := LoopHolds Try.prog hdL (hdU m f e0) (.exit 0) (hdX m f (hdN f e0 m).S)

end Go.Proofs.Ytmlfmmnnbdlabaa
