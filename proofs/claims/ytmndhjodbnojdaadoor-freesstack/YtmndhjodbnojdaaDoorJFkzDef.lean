/-
  FreesStack: definitions.
-/
import Derived.Test.YtmndhjodbnojdaaDoorJFkd
import Derived.Test.YtmndhjodbnojdaaDoorJL7
set_option linter.unusedSimpArgs false
set_option linter.unusedVariables false
namespace Go.Proofs.YtmndhjodbnojdaaDoor
open Go.Ev
/-- What one alone does between the pushes and the last pops. -/
noncomputable def fm0 (n : Nat) (E : Nat → Int) : MS := fkS E n
noncomputable def fmO (n : Nat) (E : Nat → Int) : PO := ppO2 (fm0 n E)
noncomputable def fm1 (n : Nat) (E : Nat → Int) : MS := ppS3 (ppS2 (fm0 n E))
noncomputable def fmP (n : Nat) (E : Nat → Int) : PO := ppO3 (ppS2 (fm0 n E))
noncomputable def fm2 (n : Nat) (E : Nat → Int) : MS := ppS3 (fm1 n E)
noncomputable def fmQ (n : Nat) (E : Nat → Int) : PO := ppO3 (fm1 n E)
noncomputable def fm3 (n : Nat) (E : Nat → Int) : MS := psS3 (fm2 n E) (fmP n E).sl
noncomputable def fmB (n : Nat) (E : Nat → Int) : UO := psO3 (fm2 n E) (fmP n E).sl
noncomputable def fmO3 (n : Nat) (E : Nat → Int) : PO := popX (fm3 n E) (fmO n E)
noncomputable def fm4 (n : Nat) (E : Nat → Int) : MS := popY (fm3 n E) (fmO n E)
noncomputable def fm5 (n : Nat) (E : Nat → Int) : MS := ppS3 (fm4 n E)
noncomputable def fmA (n : Nat) (E : Nat → Int) : PO := ppO3 (fm4 n E)
noncomputable def fm6 (n : Nat) (E : Nat → Int) : MS := mLoad (fm5 n E) 0 0 0
def fmK (n : Nat) : Nat := (IntKind.i64.wrap (Int.ofNat n - 2)).toNat - 0
noncomputable def EFl : Env := envG Tryd.prog ([(10, tabSP 0 tab sNone), (13, locSP pshSpec), (15, locSP popSpec), (17, tabSP 0 tab ashS)] ++ memSP)
theorem EFl_ok : EnvOk EFl := envG_ok mgood ⟨tabSP_ok rfl (sNone_ok l7_pure), locSP_ok pshSpec_ok, locSP_ok popSpec_ok, tabSP_ok rfl ashS_ok, memSP_ok⟩
noncomputable def fkRun (m : Nat) (f : Nat → Nat → AV) (hh : List Hint) : Option (AV × List Prop × Bool) := (callF EFl 6000 3 [.ss 1 1 0 m none] ⟨(tabsH [(0, tab)] ++ [(1, .arr 1 [.int .u8] true m f)]), 2, gnm 0, hh, [], [], false⟩).map (fun x => (x.1, x.2.ob, noneIn (tabsH [(0, tab)] ++ [(1, .arr 1 [.int .u8] true m f)]) x.2.wr))
end Go.Proofs.YtmndhjodbnojdaaDoor
