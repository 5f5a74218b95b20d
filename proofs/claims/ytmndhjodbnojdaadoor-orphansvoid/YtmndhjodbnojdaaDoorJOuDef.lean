/-
  Steps of a Take: the contract: definitions.
-/
import Derived.Test.YtmndhjodbnojdaaDoorJOt
import Derived.Test.YtmndhjodbnojdaaDoorJOh
set_option linter.unusedSimpArgs false
set_option linter.unusedVariables false
namespace Go.Proofs.YtmndhjodbnojdaaDoor
open Go.Ev

noncomputable def teX : Nat → MS → TO → TO := hide teO
noncomputable def teY : MS → TO → MS := hide teS
noncomputable def teNX : Nat → TO → Nat := hide teN
noncomputable def teEX : Nat → (Nat → Enty) → MS → TO → Nat → Enty := hide teE
theorem teX_eq (n : Nat) (S : MS) (o : TO) : teX n S o = teO n S o := congrFun (congrFun (congrFun (hide_eq teO) n) S) o
theorem teY_eq (S : MS) (o : TO) : teY S o = teS S o := congrFun (congrFun (hide_eq teS) S) o
theorem teNX_eq (n : Nat) (o : TO) : teNX n o = teN n o := congrFun (congrFun (hide_eq teN) n) o
theorem teEX_eq (n : Nat) (E : Nat → Enty) (S : MS) (o : TO) : teEX n E S o = teE n E S o := congrFun (congrFun (congrFun (congrFun (hide_eq teE) n) E) S) o
def TLn (l : Int) : Prop := l = 0 ∨ l = 1 ∨ l = 2 ∨ l = 3 ∨ l = 4 ∨ l = 5 ∨ l = 6 ∨ l = 7
noncomputable def teH (n : Nat) (l : Nat) (f : Nat → Nat → AV) (ln : Int) (h : Int) (sl : Int) (e : Enty) (S : MS) (FT : Nat → Nat → AV) : List (Nat × AO) := [(gnm 0, .arr tab.length (tab.map kindOfV) true 1 FT), (1, .cells 10 [.sym .i64 ln, .sym .u64 h, .sym .i64 sl, .sym .i64 e.slot, .sym .u32 e.gen, .symb e.mark, .sym .u64 e.birth, .sym .u64 e.epoch, .sym .u64 e.era, .ss 6 2 0 n none]), (2, .arr 6 ySh false l f), (3, .cells 9 (.map 4 :: lsL S.st S.L)), (4, .map 115 S.M)]
noncomputable def teR (n : Nat) (l : Nat) (f : Nat → Nat → AV) (ln : Int) (h : Int) (sl : Int) (e : Enty) (S : MS) (FT : Nat → Nat → AV) : LR := ⟨4, .symb (decide ((teX n S (TO.mk ln h sl e)).ln = 0)), [(gnm 0, .arr tab.length (tab.map kindOfV) true 1 FT), (1, .cells 10 [.sym .i64 (teX n S (TO.mk ln h sl e)).ln, .sym .u64 (teX n S (TO.mk ln h sl e)).h, .sym .i64 (teX n S (TO.mk ln h sl e)).sl, .sym .i64 (teX n S (TO.mk ln h sl e)).e.slot, .sym .u32 (teX n S (TO.mk ln h sl e)).e.gen, .symb (teX n S (TO.mk ln h sl e)).e.mark, .sym .u64 (teX n S (TO.mk ln h sl e)).e.birth, .sym .u64 (teX n S (TO.mk ln h sl e)).e.epoch, .sym .u64 (teX n S (TO.mk ln h sl e)).e.era, .ss 6 5 0 (teNX n (TO.mk ln h sl e)) none]), (5, .arr 6 ySh false (teNX n (TO.mk ln h sl e)) (yF (teEX n (fun i => yOf (f i)) S (TO.mk ln h sl e)))), (3, .cells 9 (.map 4 :: lsL (teY S (TO.mk ln h sl e)).st (teY S (TO.mk ln h sl e)).L)), (4, .map 115 (teY S (TO.mk ln h sl e)).M)], 1, [1, 2, 3, 4], [FT = tabF tab, U64 S, TLn ln, R64 h, n ≤ l ∧ n ≤ 1000000]⟩

end Go.Proofs.YtmndhjodbnojdaaDoor
