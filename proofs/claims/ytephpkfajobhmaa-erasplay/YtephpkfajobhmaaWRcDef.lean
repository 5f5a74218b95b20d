/-
  ErasPlay: contracts: definitions.
-/
import Derived.Test.YtephpkfajobhmaaWEr0
import Derived.Test.YtephpkfajobhmaaWEr1
import Derived.Test.YtephpkfajobhmaaWEr2Def
import Derived.Test.YtephpkfajobhmaaWEr3
import Derived.Test.YtephpkfajobhmaaWEr4
set_option linter.unusedSimpArgs false
set_option linter.unusedVariables false
namespace Go.Proofs.Ytephpkfajobhmaa
open Go.Ev
def rl0 (a : Int) : Int := if a = 3 then 1 else if a = 2 then 2 else if a = 1 then 3 else 0
def rl1 (a : Int) : Int := if a = 2 then 1 else if a = 1 then 2 else 0
def rA (a : Int) : Int := if a = 3 then 2 else if a = 2 then 1 else 0
def rW (S : MS) : Int := IntKind.u64.wrap (mget S.M (key 2 0 0) + 1)
def rH0 (S : MS) (a hi : Int) : Int := if a = 3 then rW S else hi
def rG0 (a hi : Int) : Int := if a = 0 then hi else 0
def rE (S : MS) (b a e : Int) : Int := if a = b then mget S.M (key 2 0 0) else e
def rS0 (S : MS) (a th hi : Int) : MS := if a = 3 then mLoad S 2 0 0 else if a = 2 then mStore S 8 th 4 hi else if a = 1 then mStore S 8 th 5 hi else S
def rR0 (S : RS) (a th hi : Int) : RS := if a = 3 then rLoad S 2 0 0 else if a = 2 then rStore S 8 th 4 hi else if a = 1 then rStore S 8 th 5 hi else S
def rS1 (S : MS) (a th : Int) : MS := if a = 2 then mStore S 8 th 4 0 else if a = 1 then mStore S 8 th 5 0 else S
def rR1 (S : RS) (a th : Int) : RS := if a = 2 then rStore S 8 th 4 0 else if a = 1 then rStore S 8 th 5 0 else S
def rA2 (S : MS) (a hi : Int) : Int := if a = 2 then (if rW S = hi then 0 else 1) else 0
def rN2 (S : MS) (a nw : Int) : Int := if a = 2 then rW S else nw
def rH2 (a hi nw : Int) : Int := if a = 1 then nw else hi
def rD2 (S : MS) (a hi : Int) (dn : Bool) : Bool := if a = 2 then (if rW S = hi then true else dn) else dn
def rS2 (S : MS) (a th nw : Int) : MS := if a = 2 then mLoad S 2 0 0 else if a = 1 then mStore S 8 th 5 nw else S
def rR2 (S : RS) (a th nw : Int) : RS := if a = 2 then rLoad S 2 0 0 else if a = 1 then rStore S 8 th 5 nw else S
def rD3 (S : MS) (a e : Int) (dn : Bool) : Bool := if a = 1 then casD S.M 2 0 0 e else dn
def rS3 (S : MS) (a e : Int) : MS := if a = 2 then mLoad S 2 0 0 else if a = 1 then mCas S 2 0 0 e (IntKind.u64.wrap (e + 1)) else S
def rR3 (S : RS) (a e : Int) : RS := if a = 2 then rLoad S 2 0 0 else if a = 1 then rCas S 2 0 0 e (IntKind.u64.wrap (e + 1)) else S

noncomputable def er0H (av th hi k2 t2 ln h2 e : Int) (dn : Bool) (S : MS) (n l : Nat) (g : Nat → Nat → AV) (s2 : Int) (L2 : LS) : List (Nat × AO) := [(1, .cells 3 [.sym .i64 av, .sym .i64 th, .sym .u64 hi]), (2, .cells 6 [.sym .i64 k2, .sym .i64 t2, .sym .i64 ln, .sym .u64 h2, .symb dn, .sym .u64 e]), (3, .cells 9 (.map 4 :: lsL S.st S.L)), (4, .map 26 S.M), (5, .cells 9 (.ss 4 6 0 n none :: lsL s2 L2)), (6, .arr 4 wSh false l g)]
noncomputable def er0R (av th hi k2 t2 ln h2 e : Int) (dn : Bool) (S : MS) (n l : Nat) (g : Nat → Nat → AV) (s2 : Int) (L2 : LS) : LR := ⟨6, .bool true, [(1, .cells 3 [.sym .i64 (rA av), .sym .i64 th, .sym .u64 (rH0 S av hi)]), (2, .cells 6 [.sym .i64 k2, .sym .i64 t2, .sym .i64 (rl0 (rA av)), .sym .u64 (rG0 (rA av) (rH0 S av hi)), .symb dn, .sym .u64 (rE S 3 av e)]), (3, .cells 9 (.map 4 :: lsL (rS0 S av th hi).st (rS0 S av th hi).L)), (4, .map 26 (rS0 S av th hi).M), (5, .cells 9 (.ss 4 7 0 (rR0 (mkR n g s2 L2) av th hi).D.n none :: lsL (rR0 (mkR n g s2 L2) av th hi).st (rR0 (mkR n g s2 L2) av th hi).L)), (7, .arr 4 wSh false (rR0 (mkR n g s2 L2) av th hi).D.n (wdF (rR0 (mkR n g s2 L2) av th hi).D.W))], 1, [1, 2, 3, 4, 5, 6], [n ≤ l, n ≤ 100000, Both S (mkR n g s2 L2), ∀ k, 0 ≤ mget S.M k ∧ mget S.M k < 18446744073709551616, k2 = 0, th = t2, av = 0 ∨ av = 1 ∨ av = 2 ∨ av = 3, ln = rl0 av, h2 = rG0 av hi, av = 1 ∨ av = 2 → hi = IntKind.u64.wrap (e + 1)]⟩

noncomputable def er1H (av th k2 t2 ln h2 e : Int) (dn : Bool) (S : MS) (n l : Nat) (g : Nat → Nat → AV) (s2 : Int) (L2 : LS) : List (Nat × AO) := [(1, .cells 2 [.sym .i64 av, .sym .i64 th]), (2, .cells 6 [.sym .i64 k2, .sym .i64 t2, .sym .i64 ln, .sym .u64 h2, .symb dn, .sym .u64 e]), (3, .cells 9 (.map 4 :: lsL S.st S.L)), (4, .map 26 S.M), (5, .cells 9 (.ss 4 6 0 n none :: lsL s2 L2)), (6, .arr 4 wSh false l g)]
noncomputable def er1R (av th k2 t2 ln h2 e : Int) (dn : Bool) (S : MS) (n l : Nat) (g : Nat → Nat → AV) (s2 : Int) (L2 : LS) : LR := ⟨6, .bool true, [(1, .cells 2 [.sym .i64 (rA av), .sym .i64 th]), (2, .cells 6 [.sym .i64 k2, .sym .i64 t2, .sym .i64 (rl1 (rA av)), .sym .u64 h2, .symb dn, .sym .u64 e]), (3, .cells 9 (.map 4 :: lsL (rS1 S av th).st (rS1 S av th).L)), (4, .map 26 (rS1 S av th).M), (5, .cells 9 (.ss 4 7 0 (rR1 (mkR n g s2 L2) av th).D.n none :: lsL (rR1 (mkR n g s2 L2) av th).st (rR1 (mkR n g s2 L2) av th).L)), (7, .arr 4 wSh false (rR1 (mkR n g s2 L2) av th).D.n (wdF (rR1 (mkR n g s2 L2) av th).D.W))], 1, [1, 2, 3, 4, 5, 6], [n ≤ l, n ≤ 100000, Both S (mkR n g s2 L2), ∀ k, 0 ≤ mget S.M k ∧ mget S.M k < 18446744073709551616, k2 = 1, th = t2, av = 0 ∨ av = 1 ∨ av = 2, ln = rl1 av]⟩

noncomputable def er2H (av th hi nw k2 t2 ln h2 e : Int) (dn dm : Bool) (S : MS) (n l : Nat) (g : Nat → Nat → AV) (s2 : Int) (L2 : LS) : List (Nat × AO) := [(1, .cells 5 [.sym .i64 av, .sym .i64 th, .sym .u64 hi, .sym .u64 nw, .symb dm]), (2, .cells 6 [.sym .i64 k2, .sym .i64 t2, .sym .i64 ln, .sym .u64 h2, .symb dn, .sym .u64 e]), (3, .cells 9 (.map 4 :: lsL S.st S.L)), (4, .map 26 S.M), (5, .cells 9 (.ss 4 6 0 n none :: lsL s2 L2)), (6, .arr 4 wSh false l g)]
noncomputable def er2R (av th hi nw k2 t2 ln h2 e : Int) (dn dm : Bool) (S : MS) (n l : Nat) (g : Nat → Nat → AV) (s2 : Int) (L2 : LS) : LR := ⟨6, .bool true, [(1, .cells 5 [.sym .i64 (rA2 S av hi), .sym .i64 th, .sym .u64 (rH2 av hi nw), .sym .u64 (rN2 S av nw), .symb (rD2 S av hi dm)]), (2, .cells 6 [.sym .i64 k2, .sym .i64 t2, .sym .i64 (rl1 (rA2 S av hi)), .sym .u64 (rH2 av hi nw), .symb (rD2 S av hi dm), .sym .u64 (rE S 2 av e)]), (3, .cells 9 (.map 4 :: lsL (rS2 S av th nw).st (rS2 S av th nw).L)), (4, .map 26 (rS2 S av th nw).M), (5, .cells 9 (.ss 4 7 0 (rR2 (mkR n g s2 L2) av th nw).D.n none :: lsL (rR2 (mkR n g s2 L2) av th nw).st (rR2 (mkR n g s2 L2) av th nw).L)), (7, .arr 4 wSh false (rR2 (mkR n g s2 L2) av th nw).D.n (wdF (rR2 (mkR n g s2 L2) av th nw).D.W))], 1, [1, 2, 3, 4, 5, 6], [n ≤ l, n ≤ 100000, Both S (mkR n g s2 L2), ∀ k, 0 ≤ mget S.M k ∧ mget S.M k < 18446744073709551616, k2 = 2, th = t2, av = 0 ∨ av = 1 ∨ av = 2, ln = rl1 av, hi = h2, dm = dn, av = 1 → nw = IntKind.u64.wrap (e + 1)]⟩

noncomputable def er3H (av er k2 t2 ln h2 e : Int) (dn dm : Bool) (S : MS) (n l : Nat) (g : Nat → Nat → AV) (s2 : Int) (L2 : LS) : List (Nat × AO) := [(1, .cells 3 [.sym .i64 av, .sym .u64 er, .symb dm]), (2, .cells 6 [.sym .i64 k2, .sym .i64 t2, .sym .i64 ln, .sym .u64 h2, .symb dn, .sym .u64 e]), (3, .cells 9 (.map 4 :: lsL S.st S.L)), (4, .map 26 S.M), (5, .cells 9 (.ss 4 6 0 n none :: lsL s2 L2)), (6, .arr 4 wSh false l g)]
noncomputable def er3R (av er k2 t2 ln h2 e : Int) (dn dm : Bool) (S : MS) (n l : Nat) (g : Nat → Nat → AV) (s2 : Int) (L2 : LS) : LR := ⟨6, .bool true, [(1, .cells 3 [.sym .i64 (rA av), .sym .u64 (rE S 2 av e), .symb (rD3 S av e dn)]), (2, .cells 6 [.sym .i64 k2, .sym .i64 t2, .sym .i64 (rl1 (rA av)), .sym .u64 h2, .symb (rD3 S av e dn), .sym .u64 (rE S 2 av e)]), (3, .cells 9 (.map 4 :: lsL (rS3 S av e).st (rS3 S av e).L)), (4, .map 26 (rS3 S av e).M), (5, .cells 9 (.ss 4 7 0 (rR3 (mkR n g s2 L2) av e).D.n none :: lsL (rR3 (mkR n g s2 L2) av e).st (rR3 (mkR n g s2 L2) av e).L)), (7, .arr 4 wSh false (rR3 (mkR n g s2 L2) av e).D.n (wdF (rR3 (mkR n g s2 L2) av e).D.W))], 1, [1, 2, 3, 4, 5, 6], [n ≤ l, n ≤ 100000, Both S (mkR n g s2 L2), ∀ k, 0 ≤ mget S.M k ∧ mget S.M k < 18446744073709551616, k2 = 3, av = 0 ∨ av = 1 ∨ av = 2, ln = rl1 av, e = er, dn = dm]⟩

end Go.Proofs.Ytephpkfajobhmaa
