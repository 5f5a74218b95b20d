/-
  ErasHold: definitions.
-/
import Derived.Test.YtmlfmmnnbdlabaaNHdLaw
import Derived.Test.YtmlfmmnnbdlabaaNL17
set_option linter.unusedSimpArgs false
set_option linter.unusedVariables false
namespace Go.Proofs.Ytmlfmmnnbdlabaa
open Go.Ev
noncomputable def Ehd : Env := envG Try.prog ((46, rawSP l17Spec) :: (51, snapSP) :: (114, locSP ixfSpec) :: memSpecs)
theorem Ehd_ok : EnvOk Ehd := envG_ok mgood ⟨rawSP_ok l17Spec_ok, snapSP_ok, locSP_ok ixfSpec_ok, memSpecs_ok⟩
noncomputable def hdRun (ft : Int) (n : Nat) (g : Nat → Nat → AV) (sl ge : Int) (mk : Bool) (b ep er : Int) (hh : List Hint) : Option (AV × List Prop × Bool) := (callF Ehd 6000 9 [.sym .u64 ft, .ss 1 1 0 n none, .agg [.sym .i64 sl, .sym .u32 ge, .symb mk, .sym .u64 b, .sym .u64 ep, .sym .u64 er]] ⟨[(1, .arr 1 [.int .u8] true n g)], 2, gnm 0, hh, [], [], false⟩).map (fun x => (x.1, x.2.ob, noneIn [(1, .arr 1 [.int .u8] true n g)] x.2.wr))
/-- The memory ahead of the moves. -/
noncomputable def hdM3 (a : Int) : MS := mStore (mStore (mStore ms0 2 0 0 a) 5 0 0 1) 8 3 0 1
def hdH (a : Int) : Int := IntKind.u64.wrap (mget (memPut (memPut (memPut (fun _ => none) 2 0 0 a) 5 0 0 1) 8 3 0 1) (key 2 0 0) + 1)
noncomputable def hd0 (a : Int) : HS := ⟨mStore (mStore (mLoad (hdM3 a) 2 0 0) 8 3 4 (hdH a)) 8 3 5 (hdH a), a, a, hdH a⟩
end Go.Proofs.Ytmlfmmnnbdlabaa
