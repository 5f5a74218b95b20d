/-
  WErBDef and what follows it.
-/
import Derived.Test.YtephpkfajobhmaaWBeg
import Derived.Test.YtephpkfajobhmaaWPairDef
import Derived.Test.YtephpkfajobhmaaEvWords
/-
  ErasPlay: steps: begun: definitions.
-/
set_option linter.unusedSimpArgs false
set_option linter.unusedVariables false
namespace Go.Proofs.Ytephpkfajobhmaa
open Go.Ev
noncomputable def EEr : Env := envG Try.prog memSP
theorem EEr_ok : EnvOk EEr := envG_ok mgood memSP_ok


end Go.Proofs.Ytephpkfajobhmaa

/-
  ErasPlay: steps: definitions.
-/
set_option linter.unusedSimpArgs false
set_option linter.unusedVariables false
namespace Go.Proofs.Ytephpkfajobhmaa
open Go.Ev

noncomputable def ere0H (th hi nw e : Int) (dn : Bool) (S : MS) (n l : Nat) (g : Nat → Nat → AV) (s2 : Int) (L2 : LS) : List (Nat × AO) := [(1, .cells 3 [.int .i64 0, .sym .i64 th, .sym .u64 hi]), (2, .cells 6 [.int .i64 0, .sym .i64 th, .int .i64 0, .sym .u64 hi, .symb dn, .sym .u64 e]), (3, .cells 9 (.map 4 :: lsL S.st S.L)), (4, .map 26 S.M), (5, .cells 9 (.ss 4 6 0 n none :: lsL s2 L2)), (6, .arr 4 wSh false l g)]
noncomputable def ere0R (th hi nw e : Int) (dn : Bool) (S : MS) (n l : Nat) (g : Nat → Nat → AV) (s2 : Int) (L2 : LS) : LR := ⟨6, .bool true, [(1, .cells 3 [.int .i64 0, .sym .i64 th, .sym .u64 hi]), (2, .cells 6 [.int .i64 0, .sym .i64 th, .int .i64 0, .sym .u64 hi, .symb dn, .sym .u64 e]), (3, .cells 9 (.map 4 :: lsL S.st S.L)), (4, .map 26 S.M), (5, .cells 9 (.ss 4 7 0 (mkR n g s2 L2).D.n none :: lsL (mkR n g s2 L2).st (mkR n g s2 L2).L)), (7, .arr 4 wSh false (mkR n g s2 L2).D.n (wdF (mkR n g s2 L2).D.W))], 1, [1, 2, 3, 4, 5, 6], [n ≤ l, n ≤ 100000, Both S (mkR n g s2 L2), ∀ k, 0 ≤ mget S.M k ∧ mget S.M k < 18446744073709551616]⟩
noncomputable def ere3H (th hi nw e : Int) (dn : Bool) (S : MS) (n l : Nat) (g : Nat → Nat → AV) (s2 : Int) (L2 : LS) : List (Nat × AO) := [(1, .cells 3 [.int .i64 3, .sym .i64 th, .sym .u64 hi]), (2, .cells 6 [.int .i64 0, .sym .i64 th, .int .i64 1, .int .u64 0, .symb dn, .sym .u64 e]), (3, .cells 9 (.map 4 :: lsL S.st S.L)), (4, .map 26 S.M), (5, .cells 9 (.ss 4 6 0 n none :: lsL s2 L2)), (6, .arr 4 wSh false l g)]
noncomputable def ere3R (th hi nw e : Int) (dn : Bool) (S : MS) (n l : Nat) (g : Nat → Nat → AV) (s2 : Int) (L2 : LS) : LR := ⟨6, .bool true, [(1, .cells 3 [.int .i64 2, .sym .i64 th, .sym .u64 (IntKind.u64.wrap (mget S.M (key 2 0 0) + 1))]), (2, .cells 6 [.int .i64 0, .sym .i64 th, .int .i64 2, .int .u64 0, .symb dn, .sym .u64 (mget S.M (key 2 0 0))]), (3, .cells 9 (.map 4 :: lsL (mLoad S 2 0 0).st (mLoad S 2 0 0).L)), (4, .map 26 (mLoad S 2 0 0).M), (5, .cells 9 (.ss 4 7 0 (rLoad (mkR n g s2 L2) 2 0 0).D.n none :: lsL (rLoad (mkR n g s2 L2) 2 0 0).st (rLoad (mkR n g s2 L2) 2 0 0).L)), (7, .arr 4 wSh false (rLoad (mkR n g s2 L2) 2 0 0).D.n (wdF (rLoad (mkR n g s2 L2) 2 0 0).D.W))], 1, [1, 2, 3, 4, 5, 6], [n ≤ l, n ≤ 100000, Both S (mkR n g s2 L2), ∀ k, 0 ≤ mget S.M k ∧ mget S.M k < 18446744073709551616]⟩
noncomputable def ere2H (th hi nw e : Int) (dn : Bool) (S : MS) (n l : Nat) (g : Nat → Nat → AV) (s2 : Int) (L2 : LS) : List (Nat × AO) := [(1, .cells 3 [.int .i64 2, .sym .i64 th, .sym .u64 (IntKind.u64.wrap (e + 1))]), (2, .cells 6 [.int .i64 0, .sym .i64 th, .int .i64 2, .int .u64 0, .symb dn, .sym .u64 e]), (3, .cells 9 (.map 4 :: lsL S.st S.L)), (4, .map 26 S.M), (5, .cells 9 (.ss 4 6 0 n none :: lsL s2 L2)), (6, .arr 4 wSh false l g)]
noncomputable def ere2R (th hi nw e : Int) (dn : Bool) (S : MS) (n l : Nat) (g : Nat → Nat → AV) (s2 : Int) (L2 : LS) : LR := ⟨6, .bool true, [(1, .cells 3 [.int .i64 1, .sym .i64 th, .sym .u64 (IntKind.u64.wrap (e + 1))]), (2, .cells 6 [.int .i64 0, .sym .i64 th, .int .i64 3, .int .u64 0, .symb dn, .sym .u64 e]), (3, .cells 9 (.map 4 :: lsL (mStore S 8 th 4 (IntKind.u64.wrap (e + 1))).st (mStore S 8 th 4 (IntKind.u64.wrap (e + 1))).L)), (4, .map 26 (mStore S 8 th 4 (IntKind.u64.wrap (e + 1))).M), (5, .cells 9 (.ss 4 7 0 (rStore (mkR n g s2 L2) 8 th 4 (IntKind.u64.wrap (e + 1))).D.n none :: lsL (rStore (mkR n g s2 L2) 8 th 4 (IntKind.u64.wrap (e + 1))).st (rStore (mkR n g s2 L2) 8 th 4 (IntKind.u64.wrap (e + 1))).L)), (7, .arr 4 wSh false (rStore (mkR n g s2 L2) 8 th 4 (IntKind.u64.wrap (e + 1))).D.n (wdF (rStore (mkR n g s2 L2) 8 th 4 (IntKind.u64.wrap (e + 1))).D.W))], 1, [1, 2, 3, 4, 5, 6], [n ≤ l, n ≤ 100000, Both S (mkR n g s2 L2), ∀ k, 0 ≤ mget S.M k ∧ mget S.M k < 18446744073709551616]⟩
noncomputable def ere1H (th hi nw e : Int) (dn : Bool) (S : MS) (n l : Nat) (g : Nat → Nat → AV) (s2 : Int) (L2 : LS) : List (Nat × AO) := [(1, .cells 3 [.int .i64 1, .sym .i64 th, .sym .u64 (IntKind.u64.wrap (e + 1))]), (2, .cells 6 [.int .i64 0, .sym .i64 th, .int .i64 3, .int .u64 0, .symb dn, .sym .u64 e]), (3, .cells 9 (.map 4 :: lsL S.st S.L)), (4, .map 26 S.M), (5, .cells 9 (.ss 4 6 0 n none :: lsL s2 L2)), (6, .arr 4 wSh false l g)]
noncomputable def ere1R (th hi nw e : Int) (dn : Bool) (S : MS) (n l : Nat) (g : Nat → Nat → AV) (s2 : Int) (L2 : LS) : LR := ⟨6, .bool true, [(1, .cells 3 [.int .i64 0, .sym .i64 th, .sym .u64 (IntKind.u64.wrap (e + 1))]), (2, .cells 6 [.int .i64 0, .sym .i64 th, .int .i64 0, .sym .u64 (IntKind.u64.wrap (e + 1)), .symb dn, .sym .u64 e]), (3, .cells 9 (.map 4 :: lsL (mStore S 8 th 5 (IntKind.u64.wrap (e + 1))).st (mStore S 8 th 5 (IntKind.u64.wrap (e + 1))).L)), (4, .map 26 (mStore S 8 th 5 (IntKind.u64.wrap (e + 1))).M), (5, .cells 9 (.ss 4 7 0 (rStore (mkR n g s2 L2) 8 th 5 (IntKind.u64.wrap (e + 1))).D.n none :: lsL (rStore (mkR n g s2 L2) 8 th 5 (IntKind.u64.wrap (e + 1))).st (rStore (mkR n g s2 L2) 8 th 5 (IntKind.u64.wrap (e + 1))).L)), (7, .arr 4 wSh false (rStore (mkR n g s2 L2) 8 th 5 (IntKind.u64.wrap (e + 1))).D.n (wdF (rStore (mkR n g s2 L2) 8 th 5 (IntKind.u64.wrap (e + 1))).D.W))], 1, [1, 2, 3, 4, 5, 6], [n ≤ l, n ≤ 100000, Both S (mkR n g s2 L2), ∀ k, 0 ≤ mget S.M k ∧ mget S.M k < 18446744073709551616]⟩
end Go.Proofs.Ytephpkfajobhmaa
