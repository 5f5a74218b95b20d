/-
  SnapsMoved: definitions.
-/
import Derived.Test.YtmlfmmnnbdlabaaNSvLaw
set_option linter.unusedSimpArgs false
set_option linter.unusedVariables false
namespace Go.Proofs.Ytmlfmmnnbdlabaa
open Go.Ev
def zBl (n : Nat) : Int := IntKind.i64.wrap ((IntKind.i64.wrap (Int.ofNat n + 3)).tdiv 4)
def zWho (n : Nat) (z0 : Int) : Int := (IntKind.i64.wrap z0).tmod (Int.ofNat n)
def zFd (z1 : Int) : Int := IntKind.i64.wrap (1 + (IntKind.i64.wrap z1).tmod 9)
def zWh (n : Nat) (wt : Int) : Int := (IntKind.i64.wrap wt).tmod (IntKind.i64.wrap (1 + IntKind.i64.wrap (10 * Int.ofNat n)))
noncomputable def zX (n : Nat) (g : Nat → Nat → AV) : MS := layN g (mStore ms0 5 0 0 (IntKind.u64.wrap (zBl n))) n
noncomputable def Esz : Env := envG Try.prog ((29, rawSP l14Spec) :: (30, locSP laySpec) :: memSpecs)
theorem Esz_ok : EnvOk Esz := envG_ok mgood ⟨rawSP_ok l14Spec_ok, locSP_ok laySpec_ok, memSpecs_ok⟩
noncomputable def szRun (n : Nat) (g : Nat → Nat → AV) (z0 z1 w wt : Int) (hh : List Hint) : Option (AV × List Prop × Bool) := (callF Esz 5000 6 [.agg [.ss 10 1 0 n none, .sym .u8 z0, .sym .u8 z1, .sym .u64 w, .sym .u8 wt]] ⟨[(1, .arr 10 tSh true n g)], 2, gnm 0, hh, [], [], false⟩).map (fun x => (x.1, x.2.ob, noneIn [(1, .arr 10 tSh true n g)] x.2.wr))
end Go.Proofs.Ytmlfmmnnbdlabaa
