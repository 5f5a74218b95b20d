/-
  Chapter 17: the loop of snap: definitions.
-/
import Derived.Test.YtmlfmmnnbdlabaaNSl
set_option linter.unusedSimpArgs false
set_option linter.unusedVariables false
namespace Go.Proofs.Ytmlfmmnnbdlabaa
open Go.Ev

noncomputable def ESf : Env := envG Try.prog ((33, tkSP) :: memSpecs)
theorem ESf_ok : EnvOk ESf := envG_ok mgood ⟨tkSP_ok, memSpecs_ok⟩
noncomputable def sfU (al : Nat) (x : MS) : St := ⟨[.ptr 1 0 0, .top, .ptr 3 0 0, .ptr 4 0 0, .int .i64 0, .ptr 4 0 0] ++ List.replicate 14 .top, ⟨[(4, .cells 6 [.func (.func 76) [.ptr 4 0 0] [], .nils, .int .u64 0, .int .i64 0, .int .i64 0, .int .i64 0]), (3, .cells 2 [.nils, .int .u64 0]), (1, .cells 9 (.map 2 :: .sym .i64 x.st :: x.L.l)), (2, .map 128 x.M)], 5, gnm 0, [], [], [4], false⟩⟩
noncomputable def sfW (al : Nat) (k : Nat) (s : SV) : St := ⟨[.ptr 1 0 0, .top, .ptr 3 0 0, .ptr 4 0 0, .sym .i64 (Int.ofNat (k + 1)), .ptr 4 0 0] ++ List.replicate 14 .top, ⟨[(4, .cells 6 [.func (.func 106) [.ptr 4 0 0] [], .ss 10 5 0 al (some al), .sym .u64 0, .sym .i64 s.ta, .sym .i64 s.fl, .sym .i64 (Int.ofNat al)]), (5, .arr 10 tSh false al s.F), (3, .cells 2 [.nils, .int .u64 0]), (1, .cells 9 (.map 2 :: .sym .i64 s.m.st :: s.m.L.l)), (2, .map 128 s.m.M)], 6, gnm 0, [], [], [5, 1, 2, 4], false⟩⟩
noncomputable def sfO (al : Nat) (k : Nat) (s : SV) : St := ⟨[.ptr 1 0 0, .top, .ptr 3 0 0, .ptr 4 0 0, .sym .i64 (Int.ofNat (k + 1)), .ptr 4 0 0] ++ List.replicate 14 .top, ⟨[(4, .cells 6 [.nilf, .ss 10 5 0 al (some al), .sym .u64 0, .sym .i64 s.ta, .sym .i64 s.fl, .sym .i64 (Int.ofNat al)]), (5, .arr 10 tSh false al s.F), (3, .cells 2 [.nils, .int .u64 0]), (1, .cells 9 (.map 2 :: .sym .i64 s.m.st :: s.m.L.l)), (2, .map 128 s.m.M)], 6, gnm 0, [], [], [5, 1, 2, 4], false⟩⟩
noncomputable def sfX (al : Nat) (s : SV) : St := ⟨[.ptr 1 0 0, .top, .ptr 3 0 0, .ptr 4 0 0, .top, .ptr 4 0 0] ++ List.replicate 14 .top, ⟨[(4, .cells 6 [.nilf, .ss 10 5 0 al (some al), .sym .u64 0, .sym .i64 s.ta, .sym .i64 s.fl, .sym .i64 (Int.ofNat al)]), (5, .arr 10 tSh false al s.F), (3, .cells 2 [.nils, .int .u64 0]), (1, .cells 9 (.map 2 :: .sym .i64 s.m.st :: s.m.L.l)), (2, .map 128 s.m.M)], 6, gnm 0, [], [], [5, 1, 2, 4], false⟩⟩
noncomputable def sfT (al : Nat) (K : Nat) (x : MS) : SI → St
  | .b => sfU al x
  | .w k => sfW al k (svN 0 0 0 (-1) x k)
  | .o => sfO al K (svN 0 0 0 (-1) x K)
noncomputable abbrev sfL : Code := loopAt Try.prog 51 0
noncomputable def sfLP (al : Nat) (x : MS) (s : SV) : Prop := LoopHolds Try.prog sfL (sfU al x) (.exit 0) (sfX al s)

end Go.Proofs.Ytmlfmmnnbdlabaa
