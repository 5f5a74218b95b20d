/-
  FreesOnce: from the first loop to the end: definitions.
-/
import Derived.Test.YtljeiencnpnbkaaDoorUFpe
import Derived.Test.YtljeiencnpnbkaaDoorUFpf
import Derived.Test.YtljeiencnpnbkaaDoorUFok
set_option linter.unusedSimpArgs false
set_option linter.unusedVariables false
namespace Go.Proofs.YtljeiencnpnbkaaDoor
open Go.Ev

noncomputable def foX2 : St := ⟨[.top, .top, .top, .top, .bool true] ++ List.replicate 165 .top, ⟨[], 8, gnm 0, [], [], [7, 5, 3, 2], false⟩⟩
def nilW : FW := ⟨3, 0, 0, fun _ => 0, po0, ⟨1, 0, 0⟩⟩
def idlW : FW := ⟨0, 0, 0, fun _ => 0, po0, ⟨1, 0, 0⟩⟩
noncomputable abbrev fcE (LL : Nat → List Int) : Nat → Int := LQ (LL 6)

end Go.Proofs.YtljeiencnpnbkaaDoor
