/-
  SameWords, Same: definitions.
-/
import Derived.Test.YtlpcdjhojfopjaaGreatDoorZSwl
import Derived.Test.YtlpcdjhojfopjaaGreatDoorEvFam
set_option linter.unusedSimpArgs false
set_option linter.unusedVariables false
namespace Go.Proofs.YtlpcdjhojfopjaaGreatDoor
open Go.Ev
noncomputable def ESw : Env := envG Tryz.prog [(70, locSP wdsSpec), (71, locSP rwwSpec)]
theorem ESw_ok : EnvOk ESw := envG_ok mgood ⟨locSP_ok wdsSpec_ok, locSP_ok rwwSpec_ok, trivial⟩

noncomputable def swwH (S : MS) (n l : Nat) (g : Nat → Nat → AV) (s2 : Int) (L2 : LS) : List (Nat × AO) := [(1, .cells 9 (.map 2 :: lsL S.st S.L)), (2, .map 250 S.M), (3, .cells 9 (.ss 4 4 0 n none :: lsL s2 L2)), (4, .arr 4 wSh false l g)]
noncomputable def swwR (S : MS) (n l : Nat) (g : Nat → Nat → AV) (s2 : Int) (L2 : LS) : LR := ⟨4, .bool true, [(1, .cells 9 (.map 2 :: lsL S.st S.L)), (2, .map 250 S.M), (3, .cells 9 (.ss 4 4 0 n none :: lsL s2 L2)), (4, .arr 4 wSh false l g)], 0, [], [n ≤ l, n ≤ 100000, FinM S.M 1000000, wlF S.M = rwl (dOf n g) n]⟩
noncomputable def smeH (S : MS) (n l : Nat) (g : Nat → Nat → AV) (s2 : Int) (L2 : LS) : List (Nat × AO) := [(1, .cells 9 (.map 2 :: lsL S.st S.L)), (2, .map 250 S.M), (3, .cells 9 (.ss 4 4 0 n none :: lsL s2 L2)), (4, .arr 4 wSh false l g)]
noncomputable def smeR (S : MS) (n l : Nat) (g : Nat → Nat → AV) (s2 : Int) (L2 : LS) : LR := ⟨4, .bool true, [(1, .cells 9 (.map 2 :: lsL S.st S.L)), (2, .map 250 S.M), (3, .cells 9 (.ss 4 4 0 n none :: lsL s2 L2)), (4, .arr 4 wSh false l g)], 0, [], [Both S (mkR n g s2 L2)]⟩
end Go.Proofs.YtlpcdjhojfopjaaGreatDoor
