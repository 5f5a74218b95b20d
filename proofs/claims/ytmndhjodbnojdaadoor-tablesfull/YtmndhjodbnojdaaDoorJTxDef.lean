/-
  TablesFull: definitions.
-/
import Derived.Test.YtmndhjodbnojdaaDoorJTk
import Derived.Test.YtmndhjodbnojdaaDoorJL10
set_option linter.unusedSimpArgs false
set_option linter.unusedVariables false
namespace Go.Proofs.YtmndhjodbnojdaaDoor
open Go.Ev
noncomputable def ETx : Env := envG Tryd.prog ([(23, tabSP 0 tab sNone), (29, locSP jddSpec), (30, locSP lddSpec), (27, locSP jvdSpec), (26, tabSP 0 tab blkS)] ++ memSP)
theorem ETx_ok : EnvOk ETx := envG_ok mgood ⟨tabSP_ok rfl (sNone_ok l10_pure), locSP_ok jddSpec_ok, locSP_ok lddSpec_ok, locSP_ok jvdSpec_ok, tabSP_ok rfl blkS_ok, memSP_ok⟩
noncomputable def tfRun (z0 z1 : Int) (m : Nat) (f : Nat → Nat → AV) (x : Int) (hh : List Hint) : Option (AV × List Prop × Bool) := (callF ETx 6000 5 [.agg [.sym .u8 z0, .sym .u8 z1], .ss 1 1 0 m none, .sym .u64 x] ⟨(tabsH [(0, tab)] ++ [(1, .arr 1 [.int .u8] true m f)]), 2, gnm 0, hh, [], [], false⟩).map (fun x => (x.1, x.2.ob, noneIn (tabsH [(0, tab)] ++ [(1, .arr 1 [.int .u8] true m f)]) x.2.wr))
def tfN (z0 : Int) : Int := IntKind.i64.wrap ((IntKind.i64.wrap z0).tmod 4 + 1)
def tfH (z0 z1 : Int) : Int := (IntKind.i64.wrap z1).tmod (IntKind.i64.wrap (tfN z0 + 1))
theorem tfN_is {z0 : Int} (h : 0 ≤ z0 ∧ z0 < 256) : 1 ≤ tfN z0 ∧ tfN z0 ≤ 4 := by
  unfold tfN
  rw [i64w (x := z0) (by omega) (by omega), Int.tmod_eq_emod_of_nonneg h.1, i64w (by omega) (by omega)]; omega
theorem tfH_is {z0 z1 : Int} (h : 0 ≤ z0 ∧ z0 < 256) (h1 : 0 ≤ z1 ∧ z1 < 256) : 0 ≤ tfH z0 z1 ∧ tfH z0 z1 ≤ tfN z0 := by
  have hn := tfN_is h
  unfold tfH
  rw [i64w (x := z1) (by omega) (by omega), i64w (x := tfN z0 + 1) (by omega) (by omega), Int.tmod_eq_emod_of_nonneg h1.1]
  have a := Int.emod_nonneg z1 (b := tfN z0 + 1) (by omega)
  have b := Int.emod_lt_of_pos z1 (b := tfN z0 + 1) (by omega)
  omega
end Go.Proofs.YtmndhjodbnojdaaDoor
