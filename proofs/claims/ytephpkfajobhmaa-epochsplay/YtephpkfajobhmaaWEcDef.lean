/-
  EpochsPlay: contracts: definitions.
-/
import Derived.Test.YtephpkfajobhmaaWEp0
import Derived.Test.YtephpkfajobhmaaWEp1
import Derived.Test.YtephpkfajobhmaaWEp2
import Derived.Test.YtephpkfajobhmaaWEp3Def
import Derived.Test.YtephpkfajobhmaaWEp4
set_option linter.unusedSimpArgs false
set_option linter.unusedVariables false
namespace Go.Proofs.Ytephpkfajobhmaa
open Go.Ev
def ln0 (a : Int) : Int := if a = 4 then 2 else a
def eA0 (a : Int) : Int := if a = 1 then 4 else 0
def eE0 (S : MS) (a e : Int) : Int := if a = 1 then mget S.M (key 1 0 0) else e
def eS0 (S : MS) (a e th : Int) : MS := if a = 1 then mLoad S 1 0 0 else if a = 4 then mStore S 8 th 3 (inE e) else S
def eR0 (S : RS) (a e th : Int) : RS := if a = 1 then rLoad S 1 0 0 else if a = 4 then rStore S 8 th 3 (inE e) else S
def eS1 (S : MS) (a th : Int) : MS := if a = 1 then mStore S 8 th 3 0 else S
def eR1 (S : RS) (a th : Int) : RS := if a = 1 then rStore S 8 th 3 0 else S
def eA2 (S : MS) (a e th b : Int) : Int := if a = 1 then 2 else if a = 2 then (if min4 (mget S.M (key 5 0 0)) = 0 then 4 else 3) else if a = 3 then lkE S e th b else 0
def eT2 (a th : Int) : Int := if a = 3 then th + 1 else th
def eB2 (S : MS) (a b : Int) : Int := if a = 2 then min4 (mget S.M (key 5 0 0)) else b
def eV2 (S : MS) (a e : Int) (mv : Bool) : Bool := if a = 4 then casD S.M 1 0 0 e else mv
def eS2 (S : MS) (a e th : Int) : MS := if a = 1 then mLoad S 1 0 0 else if a = 2 then mLoad S 5 0 0 else if a = 3 then mLoad S 8 th 3 else if a = 4 then mCas S 1 0 0 e (IntKind.u64.wrap (e + 1)) else S
def eR2 (S : RS) (a e th : Int) : RS := if a = 1 then rLoad S 1 0 0 else if a = 2 then rLoad S 5 0 0 else if a = 3 then rLoad S 8 th 3 else if a = 4 then rCas S 1 0 0 e (IntKind.u64.wrap (e + 1)) else S

noncomputable def ep0H (at_ e th k2 t2 ln ee b : Int) (mv : Bool) (S : MS) (n l : Nat) (g : Nat → Nat → AV) (s2 : Int) (L2 : LS) : List (Nat × AO) := [(1, .cells 3 [.sym .i64 at_, .sym .u64 e, .sym .i64 th]), (2, .cells 6 [.sym .i64 k2, .sym .i64 t2, .sym .i64 ln, .symb mv, .sym .u64 ee, .sym .u64 b]), (3, .cells 9 (.map 4 :: lsL S.st S.L)), (4, .map 26 S.M), (5, .cells 9 (.ss 4 6 0 n none :: lsL s2 L2)), (6, .arr 4 wSh false l g)]
noncomputable def ep0R (at_ e th k2 t2 ln ee b : Int) (mv : Bool) (S : MS) (n l : Nat) (g : Nat → Nat → AV) (s2 : Int) (L2 : LS) : LR := ⟨6, .bool true, [(1, .cells 3 [.sym .i64 (eA0 at_), .sym .u64 (eE0 S at_ e), .sym .i64 th]), (2, .cells 6 [.sym .i64 k2, .sym .i64 t2, .sym .i64 (ln0 (eA0 at_)), .symb mv, .sym .u64 (eE0 S at_ e), .sym .u64 b]), (3, .cells 9 (.map 4 :: lsL (eS0 S at_ e th).st (eS0 S at_ e th).L)), (4, .map 26 (eS0 S at_ e th).M), (5, .cells 9 (.ss 4 7 0 (eR0 (mkR n g s2 L2) at_ e th).D.n none :: lsL (eR0 (mkR n g s2 L2) at_ e th).st (eR0 (mkR n g s2 L2) at_ e th).L)), (7, .arr 4 wSh false (eR0 (mkR n g s2 L2) at_ e th).D.n (wdF (eR0 (mkR n g s2 L2) at_ e th).D.W))], 1, [1, 2, 3, 4, 5, 6], [n ≤ l, n ≤ 100000, Both S (mkR n g s2 L2), ∀ k, 0 ≤ mget S.M k ∧ mget S.M k < 18446744073709551616, k2 = 0, e = ee, at_ = 0 ∨ at_ = 1 ∨ at_ = 4, ln = ln0 at_, at_ ≠ 0 → t2 = th, 0 ≤ e ∧ e < 18446744073709551616]⟩

noncomputable def ep1H (at_ e th k2 t2 ln ee b : Int) (mv : Bool) (S : MS) (n l : Nat) (g : Nat → Nat → AV) (s2 : Int) (L2 : LS) : List (Nat × AO) := [(1, .cells 3 [.sym .i64 at_, .sym .u64 e, .sym .i64 th]), (2, .cells 6 [.sym .i64 k2, .sym .i64 t2, .sym .i64 ln, .symb mv, .sym .u64 ee, .sym .u64 b]), (3, .cells 9 (.map 4 :: lsL S.st S.L)), (4, .map 26 S.M), (5, .cells 9 (.ss 4 6 0 n none :: lsL s2 L2)), (6, .arr 4 wSh false l g)]
noncomputable def ep1R (at_ e th k2 t2 ln ee b : Int) (mv : Bool) (S : MS) (n l : Nat) (g : Nat → Nat → AV) (s2 : Int) (L2 : LS) : LR := ⟨6, .bool true, [(1, .cells 3 [.sym .i64 0, .sym .u64 e, .sym .i64 th]), (2, .cells 6 [.sym .i64 k2, .sym .i64 t2, .sym .i64 0, .symb mv, .sym .u64 e, .sym .u64 b]), (3, .cells 9 (.map 4 :: lsL (eS1 S at_ th).st (eS1 S at_ th).L)), (4, .map 26 (eS1 S at_ th).M), (5, .cells 9 (.ss 4 7 0 (eR1 (mkR n g s2 L2) at_ th).D.n none :: lsL (eR1 (mkR n g s2 L2) at_ th).st (eR1 (mkR n g s2 L2) at_ th).L)), (7, .arr 4 wSh false (eR1 (mkR n g s2 L2) at_ th).D.n (wdF (eR1 (mkR n g s2 L2) at_ th).D.W))], 1, [1, 2, 3, 4, 5, 6], [n ≤ l, n ≤ 100000, Both S (mkR n g s2 L2), ∀ k, 0 ≤ mget S.M k ∧ mget S.M k < 18446744073709551616, k2 = 1, e = ee, at_ = 0 ∨ at_ = 1, ln = at_, at_ ≠ 0 → t2 = th]⟩

noncomputable def ep2H (at_ e th k2 t2 ln ee b al : Int) (mv mw : Bool) (S : MS) (n l : Nat) (g : Nat → Nat → AV) (s2 : Int) (L2 : LS) : List (Nat × AO) := [(1, .cells 5 [.sym .i64 at_, .sym .u64 e, .sym .i64 th, .sym .i64 al, .symb mw]), (2, .cells 6 [.sym .i64 k2, .sym .i64 t2, .sym .i64 ln, .symb mv, .sym .u64 ee, .sym .u64 b]), (3, .cells 9 (.map 4 :: lsL S.st S.L)), (4, .map 26 S.M), (5, .cells 9 (.ss 4 6 0 n none :: lsL s2 L2)), (6, .arr 4 wSh false l g)]
noncomputable def ep2R (at_ e th k2 t2 ln ee b al : Int) (mv mw : Bool) (S : MS) (n l : Nat) (g : Nat → Nat → AV) (s2 : Int) (L2 : LS) : LR := ⟨6, .bool true, [(1, .cells 5 [.sym .i64 (eA2 S at_ e th b), .sym .u64 (eE0 S at_ e), .sym .i64 (eT2 at_ th), .sym .i64 (4 * eB2 S at_ b), .symb (eV2 S at_ e mv)]), (2, .cells 6 [.sym .i64 k2, .sym .i64 (eT2 at_ th), .sym .i64 (eA2 S at_ e th b), .symb (eV2 S at_ e mv), .sym .u64 (eE0 S at_ e), .sym .u64 (eB2 S at_ b)]), (3, .cells 9 (.map 4 :: lsL (eS2 S at_ e th).st (eS2 S at_ e th).L)), (4, .map 26 (eS2 S at_ e th).M), (5, .cells 9 (.ss 4 7 0 (eR2 (mkR n g s2 L2) at_ e th).D.n none :: lsL (eR2 (mkR n g s2 L2) at_ e th).st (eR2 (mkR n g s2 L2) at_ e th).L)), (7, .arr 4 wSh false (eR2 (mkR n g s2 L2) at_ e th).D.n (wdF (eR2 (mkR n g s2 L2) at_ e th).D.W))], 1, [1, 2, 3, 4, 5, 6], [n ≤ l, n ≤ 100000, Both S (mkR n g s2 L2), ∀ k, 0 ≤ mget S.M k ∧ mget S.M k < 18446744073709551616, k2 = 2, e = ee, at_ = 0 ∨ at_ = 1 ∨ at_ = 2 ∨ at_ = 3 ∨ at_ = 4, at_ = ln, th = t2, al = 4 * b, mv = mw, at_ = 2 → th = 0, at_ = 3 → 0 ≤ th ∧ th < 4 * b ∧ b ≤ 4, 0 ≤ e ∧ e < 18446744073709551616]⟩

end Go.Proofs.Ytephpkfajobhmaa
