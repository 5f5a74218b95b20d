/-
  BarriersPlay: definitions.
-/
import Derived.Test.YtmlfmmnnbdlabaaDoorQPbLaw
import Derived.Test.YtmlfmmnnbdlabaaDoorQL22
set_option linter.unusedSimpArgs false
set_option linter.unusedVariables false
namespace Go.Proofs.YtmlfmmnnbdlabaaDoor
open Go.Ev
noncomputable def EBy : Env := envG Tryd.prog ((5, tabSP 0 tab sNone) :: (6, locSP bgSpec) :: (9, locSP pstSpec) :: (15, locSP smeSpec) :: memSP)
theorem EBy_ok : EnvOk EBy := envG_ok mgood ⟨tabSP_ok rfl (sNone_ok l22_pure), locSP_ok bgSpec_ok, locSP_ok pstSpec_ok, locSP_ok smeSpec_ok, memSP_ok⟩
noncomputable def byRun (n : Nat) (g : Nat → Nat → AV) (m : Nat) (f : Nat → Nat → AV) (nb lk : Int) (hh : List Hint) : Option (AV × List Prop × Bool) := (callF EBy 6000 3 [.ss 4 1 0 n none, .ss 4 2 0 m none, .agg [.sym .u64 nb, .sym .i64 lk]] ⟨(tabsH [(0, tab)] ++ [(1, .arr 4 wSh true n g), (2, .arr 4 wSh true m f)]), 3, gnm 0, hh, [], [], false⟩).map (fun x => (x.1, x.2.ob, noneIn (tabsH [(0, tab)] ++ [(1, .arr 4 wSh true n g), (2, .arr 4 wSh true m f)]) x.2.wr))
end Go.Proofs.YtmlfmmnnbdlabaaDoor
