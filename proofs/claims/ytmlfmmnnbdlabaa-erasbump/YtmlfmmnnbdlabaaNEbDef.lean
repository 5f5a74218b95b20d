/-
  Bumps of the era: definitions.
-/
import Derived.Test.YtmlfmmnnbdlabaaEvLaw
import Derived.Test.YtmlfmmnnbdlabaaEbLaw
import Derived.Test.YtmlfmmnnbdlabaaNMemOps
set_option linter.unusedSimpArgs false
set_option linter.unusedVariables false
namespace Go.Proofs.Ytmlfmmnnbdlabaa
open Go.Ev
noncomputable def EMo2 : Env := envG Try.prog memSpecs
theorem EMo2_ok : EnvOk EMo2 := envG_ok mgood memSpecs_ok

noncomputable def bstH (l e : Int) (v : Bool) (st c k a f w i : Int) (d : Bool) (M : List Int → Option Int) : List (Nat × AO) := [(1, .cells 3 [.sym .i64 l, .sym .u64 e, .symb v]), (2, .cells 9 [.map 3, .sym .i64 st, .sym .u8 c, .sym .u8 k, .sym .i64 a, .sym .i64 f, .sym .u64 w, .sym .u64 i, .symb d]), (3, .map 128 M)]
noncomputable def bstR (l e : Int) (v : Bool) (st c k a f w i : Int) (d : Bool) (M : List Int → Option Int) : LR := ⟨3, .symb (bL l == 0), [(1, .cells 3 [.sym .i64 (bL l), .sym .u64 (bE l e M), .symb (bV l e v M)]), (2, .cells 9 [.map 3, .sym .i64 (bSt l e M st c k a f w i d).st, .sym .u8 (bSt l e M st c k a f w i d).L.c, .sym .u8 (bSt l e M st c k a f w i d).L.k, .sym .i64 (bSt l e M st c k a f w i d).L.a, .sym .i64 (bSt l e M st c k a f w i d).L.f, .sym .u64 (bSt l e M st c k a f w i d).L.w, .sym .u64 (bSt l e M st c k a f w i d).L.i, .symb (bSt l e M st c k a f w i d).L.d]), (3, .map 128 (bM l e M))], 0, [1, 2, 3], []⟩
end Go.Proofs.Ytmlfmmnnbdlabaa
