/-
  SnapsMoved: the owners: definitions.
-/
import Derived.Test.YtmlfmmnnbdlabaaNSv
import Derived.Test.YtmlfmmnnbdlabaaNL14
set_option linter.unusedSimpArgs false
set_option linter.unusedVariables false
namespace Go.Proofs.Ytmlfmmnnbdlabaa
open Go.Ev

noncomputable def ESo : Env := envG Try.prog ((29, rawSP l14Spec) :: memSpecs)
theorem ESo_ok : EnvOk ESo := envG_ok mgood ⟨rawSP_ok l14Spec_ok, memSpecs_ok⟩
noncomputable def soU (n : Nat) (g : Nat → Nat → AV) (z0 z1 w wt : Int) : St := ⟨[.top, .ptr 2 0 0, .top, .ss 10 1 0 n none, .sym .u64 w, .int .i64 0] ++ List.replicate 146 .top, ⟨[(2, .cells 5 [.ss 10 1 0 n none, .sym .u8 z0, .sym .u8 z1, .sym .u64 w, .sym .u8 wt]), (1, .arr 10 tSh true n g)], 3, gnm 0, [], [], [], false⟩⟩
noncomputable def soT (n : Nat) (g : Nat → Nat → AV) (z0 z1 w wt : Int) (i : Nat) : St := ⟨[.top, .ptr 2 0 0, .top, .ss 10 1 0 n none, .sym .u64 w, .sym .i64 (Int.ofNat i)] ++ List.replicate 146 .top, ⟨[(2, .cells 5 [.ss 10 1 0 n none, .sym .u8 z0, .sym .u8 z1, .sym .u64 w, .sym .u8 wt]), (1, .arr 10 tSh true n g)], 3, gnm 0, [], [], [], false⟩⟩
noncomputable def soX (n : Nat) (g : Nat → Nat → AV) (z0 z1 w wt : Int) : St := ⟨[.top, .ptr 2 0 0, .top, .ss 10 1 0 n none, .sym .u64 w] ++ List.replicate 147 .top, ⟨[(2, .cells 5 [.ss 10 1 0 n none, .sym .u8 z0, .sym .u8 z1, .sym .u64 w, .sym .u8 wt]), (1, .arr 10 tSh true n g)], 3, gnm 0, [], [], [], false⟩⟩
noncomputable def soR (n : Nat) (g : Nat → Nat → AV) (z0 z1 w wt : Int) : St := ⟨[.top, .top, .bool true] ++ List.replicate 149 .top, ⟨[(2, .cells 5 [.ss 10 1 0 n none, .sym .u8 z0, .sym .u8 z1, .sym .u64 w, .sym .u8 wt]), (1, .arr 10 tSh true n g)], 3, gnm 0, [], [], [], false⟩⟩
noncomputable abbrev soL : Code := loopAt Try.prog 6 0
noncomputable def soLP (n : Nat) (g : Nat → Nat → AV) (z0 z1 w wt : Int) : Prop := LoopHolds Try.prog soL (soU n g z0 z1 w wt) (.exit 0) (soX n g z0 z1 w wt)
noncomputable def soLQ (n : Nat) (g : Nat → Nat → AV) (z0 z1 w wt : Int) : Prop := LoopHolds Try.prog soL (soU n g z0 z1 w wt) .ret (soR n g z0 z1 w wt)

end Go.Proofs.Ytmlfmmnnbdlabaa
