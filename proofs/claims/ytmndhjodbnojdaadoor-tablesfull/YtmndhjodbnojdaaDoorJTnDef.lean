/-
  Steps of a Join, of a Leave: contracts: definitions.
-/
import Derived.Test.YtmndhjodbnojdaaDoorJTm
import Derived.Test.YtmndhjodbnojdaaDoorEvHide
set_option linter.unusedSimpArgs false
set_option linter.unusedVariables false
namespace Go.Proofs.YtmndhjodbnojdaaDoor
open Go.Ev
def Ln7 (l : Int) : Prop := l = 0 ∨ l = 1 ∨ l = 2 ∨ l = 3 ∨ l = 4 ∨ l = 5 ∨ l = 6 ∨ l = 7
def Ln6 (l : Int) : Prop := l = 0 ∨ l = 1 ∨ l = 2 ∨ l = 3 ∨ l = 4 ∨ l = 5 ∨ l = 6

noncomputable def jnX : MS → JO → JO := hide jnO
noncomputable def jnY : MS → JO → MS := hide jnS
theorem jnX_eq (S : MS) (o : JO) : jnX S o = jnO S o := congrFun (congrFun (hide_eq jnO) S) o
theorem jnY_eq (S : MS) (o : JO) : jnY S o = jnS S o := congrFun (congrFun (hide_eq jnS) S) o
noncomputable def jnH (ln : Int) (bl : Int) (wd : Int) (e : Int) (ow : Int) (bs : Int) (kk : Int) (th : Int) (S : MS) (FT : Nat → Nat → AV) : List (Nat × AO) := [(gnm 0, .arr tab.length (tab.map kindOfV) true 1 FT), (1, .cells 8 [.sym .i64 ln, .sym .i64 bl, .sym .u64 wd, .sym .i64 e, .sym .u64 ow, .sym .i64 bs, .sym .i64 kk, .sym .i64 th]), (2, .cells 9 (.map 3 :: lsL S.st S.L)), (3, .map 115 S.M)]
noncomputable def jnR (ln : Int) (bl : Int) (wd : Int) (e : Int) (ow : Int) (bs : Int) (kk : Int) (th : Int) (S : MS) (FT : Nat → Nat → AV) : LR := ⟨3, .symb (decide ((jnX S (JO.mk ln bl wd e ow bs kk th)).ln = 0)), [(gnm 0, .arr tab.length (tab.map kindOfV) true 1 FT), (1, .cells 8 [.sym .i64 ((jnX S (JO.mk ln bl wd e ow bs kk th))).ln, .sym .i64 ((jnX S (JO.mk ln bl wd e ow bs kk th))).bl, .sym .u64 ((jnX S (JO.mk ln bl wd e ow bs kk th))).wd, .sym .i64 ((jnX S (JO.mk ln bl wd e ow bs kk th))).e, .sym .u64 ((jnX S (JO.mk ln bl wd e ow bs kk th))).ow, .sym .i64 ((jnX S (JO.mk ln bl wd e ow bs kk th))).bs, .sym .i64 ((jnX S (JO.mk ln bl wd e ow bs kk th))).kk, .sym .i64 ((jnX S (JO.mk ln bl wd e ow bs kk th))).th]), (2, .cells 9 (.map 3 :: lsL (jnY S (JO.mk ln bl wd e ow bs kk th)).st (jnY S (JO.mk ln bl wd e ow bs kk th)).L)), (3, .map 115 (jnY S (JO.mk ln bl wd e ow bs kk th)).M)], 0, [1, 2, 3], [FT = tabF tab, U64 S, Ln7 ln, R64 wd]⟩

noncomputable def lvX : MS → VO → VO := hide lvO
noncomputable def lvY : MS → VO → MS := hide lvS
theorem lvX_eq (S : MS) (o : VO) : lvX S o = lvO S o := congrFun (congrFun (hide_eq lvO) S) o
theorem lvY_eq (S : MS) (o : VO) : lvY S o = lvS S o := congrFun (congrFun (hide_eq lvS) S) o
noncomputable def lvH (ln : Int) (bl : Int) (wd : Int) (e : Int) (th : Int) (S : MS) (FT : Nat → Nat → AV) : List (Nat × AO) := [(gnm 0, .arr tab.length (tab.map kindOfV) true 1 FT), (1, .cells 5 [.sym .i64 ln, .sym .i64 bl, .sym .u64 wd, .sym .i64 e, .sym .i64 th]), (2, .cells 9 (.map 3 :: lsL S.st S.L)), (3, .map 115 S.M)]
noncomputable def lvR (ln : Int) (bl : Int) (wd : Int) (e : Int) (th : Int) (S : MS) (FT : Nat → Nat → AV) : LR := ⟨3, .symb (decide ((lvX S (VO.mk ln bl wd e th)).ln = 0)), [(gnm 0, .arr tab.length (tab.map kindOfV) true 1 FT), (1, .cells 5 [.sym .i64 ((lvX S (VO.mk ln bl wd e th))).ln, .sym .i64 ((lvX S (VO.mk ln bl wd e th))).bl, .sym .u64 ((lvX S (VO.mk ln bl wd e th))).wd, .sym .i64 ((lvX S (VO.mk ln bl wd e th))).e, .sym .i64 ((lvX S (VO.mk ln bl wd e th))).th]), (2, .cells 9 (.map 3 :: lsL (lvY S (VO.mk ln bl wd e th)).st (lvY S (VO.mk ln bl wd e th)).L)), (3, .map 115 (lvY S (VO.mk ln bl wd e th)).M)], 0, [1, 2, 3], [FT = tabF tab, U64 S, Ln6 ln, R64 wd]⟩

end Go.Proofs.YtmndhjodbnojdaaDoor
