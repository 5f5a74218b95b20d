/-
  QL22 and what follows it.
-/
import Derived.Test.YtmlfmmnnbdlabaaDoorEvDropK
import Derived.Test.YtmlfmmnnbdlabaaDoorQTab0
import Derived.Test.YtmlfmmnnbdlabaaDoorEvDoor
import Derived.Test.YtmlfmmnnbdlabaaDoorEvBits
import Derived.Test.YtmlfmmnnbdlabaaDoorQBxLaw
/-
  The example of chapter 22.
-/
set_option linter.unusedSimpArgs false
set_option linter.unusedVariables false
namespace Go.Proofs.YtmlfmmnnbdlabaaDoor
open Go.Ev
theorem l22_run : (callF EMC 20000 5 [] ⟨[(gnm 0, tabAO tab)], 0, gnm 0, [], [], [], true⟩).map (fun x => (x.1, x.2.ob)) = some (.bool true, []) := by kernel_rfl
theorem l22_pure : TabPure Tryd.prog 5 [] (.bool true) [] 0 tab := tabPure_true (.inl rfl) (tabPure_closed EMC_ok rfl l22_run)
end Go.Proofs.YtmlfmmnnbdlabaaDoor

/-
  BarriersAll: definitions.
-/
set_option linter.unusedSimpArgs false
set_option linter.unusedVariables false
namespace Go.Proofs.YtmlfmmnnbdlabaaDoor
open Go.Ev
noncomputable def EBa : Env := envG Tryd.prog ((5, tabSP 0 tab sNone) :: (17, locSP laySpec) :: (21, locSP wdsSpec) :: (20, rawSP rncSpec) :: memSpecs)
theorem EBa_ok : EnvOk EBa := envG_ok mgood ⟨tabSP_ok rfl (sNone_ok l22_pure), locSP_ok laySpec_ok, locSP_ok wdsSpec_ok, rawSP_ok rncSpec_ok, memSpecs_ok⟩
noncomputable def bxRun (n : Nat) (g : Nat → Nat → AV) (b z0 z1 : Int) (hh : List Hint) : Option (AV × List Prop × Bool) := (callF EBa 6000 4 [.ss 10 1 0 n none, .sym .u8 b, .agg [.sym .u8 z0, .sym .u8 z1]] ⟨(tabsH [(0, tab)] ++ [(1, .arr 10 tSh true n g)]), 2, gnm 0, hh, [], [], false⟩).map (fun x => (x.1, x.2.ob, noneIn (tabsH [(0, tab)] ++ [(1, .arr 10 tSh true n g)]) x.2.wr))
end Go.Proofs.YtmlfmmnnbdlabaaDoor
