/-
  joined, left: contracts: definitions.
-/
import Derived.Test.YtmndhjodbnojdaaDoorJTg0
set_option linter.unusedSimpArgs false
set_option linter.unusedVariables false
namespace Go.Proofs.YtmndhjodbnojdaaDoor
open Go.Ev

noncomputable def jd1H (w : Int) (S : MS) (kk : Nat) (FT : Nat → Nat → AV) : List (Nat × AO) := [(gnm 0, .arr tab.length (tab.map kindOfV) true 1 FT), (1, .cells 9 (.map 2 :: lsL S.st S.L)), (2, .map 115 S.M)]
noncomputable def jd1R (w : Int) (S : MS) (kk : Nat) (FT : Nat → Nat → AV) : LR := ⟨2, .tup [.sym .i64 (jdIt S w (kk + 1)).o.th, .sym .i64 0, .sym .i64 (Int.ofNat kk + 1)], [(gnm 0, .arr tab.length (tab.map kindOfV) true 1 FT), (1, .cells 9 (.map 2 :: lsL (jdIt S w (kk + 1)).S.st (jdIt S w (kk + 1)).S.L)), (2, .map 115 (jdIt S w (kk + 1)).S.M)], 0, [1, 2], [FT = tabF tab, U64 S, JdAt S w (kk + 1), (jdIt S w (kk + 1)).o.e = 0, 0 ≤ w, w < 4611686018427387904]⟩
noncomputable def jd2H (w : Int) (S : MS) (kk : Nat) (FT : Nat → Nat → AV) : List (Nat × AO) := [(gnm 0, .arr tab.length (tab.map kindOfV) true 1 FT), (1, .cells 9 (.map 2 :: lsL S.st S.L)), (2, .map 115 S.M)]
noncomputable def jd2R (w : Int) (S : MS) (kk : Nat) (FT : Nat → Nat → AV) : LR := ⟨2, .tup [.sym .i64 (-1), .sym .i64 (jdIt S w (kk + 1)).o.e, .sym .i64 (Int.ofNat kk + 1)], [(gnm 0, .arr tab.length (tab.map kindOfV) true 1 FT), (1, .cells 9 (.map 2 :: lsL (jdIt S w (kk + 1)).S.st (jdIt S w (kk + 1)).S.L)), (2, .map 115 (jdIt S w (kk + 1)).S.M)], 0, [1, 2], [FT = tabF tab, U64 S, JdAt S w (kk + 1), ¬ (jdIt S w (kk + 1)).o.e = 0, 0 ≤ w, w < 4611686018427387904]⟩
noncomputable def ld1H (w : Int) (S : MS) (kk : Nat) (FT : Nat → Nat → AV) : List (Nat × AO) := [(gnm 0, .arr tab.length (tab.map kindOfV) true 1 FT), (1, .cells 9 (.map 2 :: lsL S.st S.L)), (2, .map 115 S.M)]
noncomputable def ld1R (w : Int) (S : MS) (kk : Nat) (FT : Nat → Nat → AV) : LR := ⟨2, .tup [.sym .i64 (ldIt S w (kk + 1)).o.e, .sym .i64 (Int.ofNat kk + 1)], [(gnm 0, .arr tab.length (tab.map kindOfV) true 1 FT), (1, .cells 9 (.map 2 :: lsL (ldIt S w (kk + 1)).S.st (ldIt S w (kk + 1)).S.L)), (2, .map 115 (ldIt S w (kk + 1)).S.M)], 0, [1, 2], [FT = tabF tab, U64 S, LdAt S w (kk + 1), 0 ≤ w, w < 16]⟩
end Go.Proofs.YtmndhjodbnojdaaDoor
