/-
  Chapter 14: the loop of taken: definitions.
-/
import Derived.Test.YtmlfmmnnbdlabaaNStLaw
set_option linter.unusedSimpArgs false
set_option linter.unusedVariables false
namespace Go.Proofs.Ytmlfmmnnbdlabaa
open Go.Ev

noncomputable def ESk : Env := envG Try.prog ((33, tkSP) :: memSpecs)
theorem ESk_ok : EnvOk ESk := envG_ok mgood ⟨tkSP_ok, memSpecs_ok⟩
noncomputable def skU (al : Nat) (mo : Int) (x : MS) : St := ⟨[.ptr 1 0 0, .sym .i64 mo, .top, .top, .ptr 3 0 0, .bool false, .ptr 4 0 0, .int .i64 0, .ptr 4 0 0] ++ List.replicate 17 .top, ⟨[(4, .cells 6 [.func (.func 76) [.ptr 4 0 0] [], .nils, .int .u64 0, .int .i64 0, .int .i64 0, .int .i64 0]), (3, .cells 2 [.nils, .int .u64 0]), (1, .cells 9 (.map 2 :: .sym .i64 x.st :: x.L.l)), (2, .map 128 x.M)], 5, gnm 0, [], [], [4], false⟩⟩
noncomputable def skW (al : Nat) (mo : Int) (k : Nat) (s : SV) : St := ⟨[.ptr 1 0 0, .sym .i64 mo, .top, .top, .ptr 3 0 0, .bool false, .ptr 4 0 0, .sym .i64 (Int.ofNat (k + 1)), .ptr 4 0 0] ++ List.replicate 17 .top, ⟨[(4, .cells 6 [.func (.func 106) [.ptr 4 0 0] [], .ss 10 5 0 al (some al), .sym .u64 0, .sym .i64 s.ta, .sym .i64 s.fl, .sym .i64 (Int.ofNat al)]), (5, .arr 10 tSh false al s.F), (3, .cells 2 [.nils, .int .u64 0]), (1, .cells 9 (.map 2 :: .sym .i64 s.m.st :: s.m.L.l)), (2, .map 128 s.m.M)], 6, gnm 0, [], [], [5, 1, 2, 4], false⟩⟩
noncomputable def skO (al : Nat) (mo : Int) (k : Nat) (s : SV) : St := ⟨[.ptr 1 0 0, .sym .i64 mo, .top, .top, .ptr 3 0 0, .bool false, .ptr 4 0 0, .sym .i64 (Int.ofNat (k + 1)), .ptr 4 0 0] ++ List.replicate 17 .top, ⟨[(4, .cells 6 [.nilf, .ss 10 5 0 al (some al), .sym .u64 0, .sym .i64 s.ta, .sym .i64 s.fl, .sym .i64 (Int.ofNat al)]), (5, .arr 10 tSh false al s.F), (3, .cells 2 [.nils, .int .u64 0]), (1, .cells 9 (.map 2 :: .sym .i64 s.m.st :: s.m.L.l)), (2, .map 128 s.m.M)], 6, gnm 0, [], [], [5, 1, 2, 4], false⟩⟩
noncomputable def skX (al : Nat) (mo : Int) (s : SV) : St := ⟨[.ptr 1 0 0, .sym .i64 mo, .top, .top, .ptr 3 0 0, .bool false, .ptr 4 0 0, .top, .ptr 4 0 0] ++ List.replicate 17 .top, ⟨[(4, .cells 6 [.nilf, .ss 10 5 0 al (some al), .sym .u64 0, .sym .i64 s.ta, .sym .i64 s.fl, .sym .i64 (Int.ofNat al)]), (5, .arr 10 tSh false al s.F), (3, .cells 2 [.nils, .int .u64 0]), (1, .cells 9 (.map 2 :: .sym .i64 s.m.st :: s.m.L.l)), (2, .map 128 s.m.M)], 6, gnm 0, [], [], [5, 1, 2, 4], false⟩⟩
noncomputable def skT (al : Nat) (mo : Int) (K : Nat) (x : MS) : SI → St
  | .b => skU al mo x
  | .w k => skW al mo k (svN 0 0 0 (-1) x k)
  | .o => skO al mo K (svN 0 0 0 (-1) x K)
noncomputable abbrev skL : Code := loopAt Try.prog 45 0
noncomputable def skLP (al : Nat) (mo : Int) (x : MS) (s : SV) : Prop := LoopHolds Try.prog skL (skU al mo x) (.exit 0) (skX al mo s)

end Go.Proofs.Ytmlfmmnnbdlabaa
