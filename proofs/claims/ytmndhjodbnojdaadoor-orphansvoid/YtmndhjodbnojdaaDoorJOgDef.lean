/-
  Steps of a Give: line by line: definitions.
-/
import Derived.Test.YtmndhjodbnojdaaDoorJWd
import Derived.Test.YtmndhjodbnojdaaDoorJBeg
import Derived.Test.YtmndhjodbnojdaaDoorEvFam
set_option linter.unusedSimpArgs false
set_option linter.unusedVariables false
namespace Go.Proofs.YtmndhjodbnojdaaDoor
open Go.Ev
def R64 (h : Int) : Prop := 0 ≤ h ∧ h < 18446744073709551616
structure GO where
  ln : Int
  h : Int
  at_ : Int
def oHd (S : MS) : Int := mget S.M (key 4 0 0)
/-- A Give of the n slots K: a step. -/
def gvO (n : Nat) (K : Nat → Int) (S : MS) (o : GO) : GO :=
  if o.ln = 1 then (if IntKind.i64.wrap (o.at_ + 1) = IntKind.i64.wrap (Int.ofNat n - 1) then ⟨2, o.h, IntKind.i64.wrap (o.at_ + 1)⟩ else ⟨1, o.h, IntKind.i64.wrap (o.at_ + 1)⟩)
  else if o.ln = 2 then ⟨3, oHd S, o.at_⟩
  else if o.ln = 3 then ⟨4, o.h, o.at_⟩
  else if o.ln = 4 then (if casD S.M 4 0 0 o.h = true then ⟨0, o.h, o.at_⟩ else ⟨2, o.h, o.at_⟩)
  else o
def gvS (n : Nat) (K : Nat → Int) (S : MS) (o : GO) : MS :=
  if o.ln = 1 then mStore S 9 (K (0 + o.at_.toNat)) 2 (hHead (K (0 + (IntKind.i64.wrap (o.at_ + 1)).toNat)) 0)
  else if o.ln = 2 then mLoad S 4 0 0
  else if o.ln = 3 then mStore S 9 (K (0 + (IntKind.i64.wrap (Int.ofNat n - 1)).toNat)) 2 (hHead (hSlot o.h) 0)
  else if o.ln = 4 then mCas S 4 0 0 o.h (hHead (K (0 + 0)) (IntKind.u64.wrap (hTag o.h + 1)))
  else S
theorem gvO_1a {n : Nat} {K : Nat → Int} {S : MS} {h a : Int} (q : IntKind.i64.wrap (a + 1) = IntKind.i64.wrap (Int.ofNat n - 1)) : gvO n K S ⟨1, h, a⟩ = ⟨2, h, IntKind.i64.wrap (a + 1)⟩ := if_pos q
theorem gvO_1b {n : Nat} {K : Nat → Int} {S : MS} {h a : Int} (q : ¬ IntKind.i64.wrap (a + 1) = IntKind.i64.wrap (Int.ofNat n - 1)) : gvO n K S ⟨1, h, a⟩ = ⟨1, h, IntKind.i64.wrap (a + 1)⟩ := if_neg q
theorem gvO_4a {n : Nat} {K : Nat → Int} {S : MS} {h a : Int} (q : casD S.M 4 0 0 h = true) : gvO n K S ⟨4, h, a⟩ = ⟨0, h, a⟩ := if_pos q
theorem gvO_4b {n : Nat} {K : Nat → Int} {S : MS} {h a : Int} (q : ¬ casD S.M 4 0 0 h = true) : gvO n K S ⟨4, h, a⟩ = ⟨2, h, a⟩ := if_neg q
noncomputable def EOr : Env := envG Tryd.prog ([(17, tabSP 0 tab ashS), (112, tabSP 0 tab hdS), (108, tabSP 0 tab ahrS)] ++ memSP)
theorem EOr_ok : EnvOk EOr := envG_ok mgood ⟨tabSP_ok rfl ashS_ok, tabSP_ok rfl hdS_ok, tabSP_ok rfl ahrS_ok, memSP_ok⟩

noncomputable def gv0H (n : Nat) (l : Nat) (f : Nat → Nat → AV) (h : Int) (a : Int) (S : MS) (FT : Nat → Nat → AV) : List (Nat × AO) := [(gnm 0, .arr tab.length (tab.map kindOfV) true 1 FT), (1, .cells 4 [.int .i64 0, .sym .u64 h, .ss 1 2 0 n none, .sym .i64 a]), (2, .arr 1 [.int .i64] false l f), (3, .cells 9 (.map 4 :: lsL S.st S.L)), (4, .map 115 S.M)]
noncomputable def gv0R (n : Nat) (l : Nat) (f : Nat → Nat → AV) (h : Int) (a : Int) (S : MS) (FT : Nat → Nat → AV) : LR := ⟨4, .symb (decide ((gvO n (kOf f) S (GO.mk 0 h a)).ln = 0)), [(gnm 0, .arr tab.length (tab.map kindOfV) true 1 FT), (1, .cells 4 [.sym .i64 (gvO n (kOf f) S (GO.mk 0 h a)).ln, .sym .u64 (gvO n (kOf f) S (GO.mk 0 h a)).h, .ss 1 2 0 n none, .sym .i64 (gvO n (kOf f) S (GO.mk 0 h a)).at_]), (2, .arr 1 [.int .i64] false l f), (3, .cells 9 (.map 4 :: lsL (gvS n (kOf f) S (GO.mk 0 h a)).st (gvS n (kOf f) S (GO.mk 0 h a)).L)), (4, .map 115 (gvS n (kOf f) S (GO.mk 0 h a)).M)], 0, [1, 3, 4], [FT = tabF tab, U64 S]⟩
noncomputable def gv1aH (n : Nat) (l : Nat) (f : Nat → Nat → AV) (h : Int) (a : Int) (S : MS) (FT : Nat → Nat → AV) : List (Nat × AO) := [(gnm 0, .arr tab.length (tab.map kindOfV) true 1 FT), (1, .cells 4 [.int .i64 1, .sym .u64 h, .ss 1 2 0 n none, .sym .i64 a]), (2, .arr 1 [.int .i64] false l f), (3, .cells 9 (.map 4 :: lsL S.st S.L)), (4, .map 115 S.M)]
noncomputable def gv1aR (n : Nat) (l : Nat) (f : Nat → Nat → AV) (h : Int) (a : Int) (S : MS) (FT : Nat → Nat → AV) : LR := ⟨4, .symb (decide ((gvO n (kOf f) S (GO.mk 1 h a)).ln = 0)), [(gnm 0, .arr tab.length (tab.map kindOfV) true 1 FT), (1, .cells 4 [.sym .i64 (gvO n (kOf f) S (GO.mk 1 h a)).ln, .sym .u64 (gvO n (kOf f) S (GO.mk 1 h a)).h, .ss 1 2 0 n none, .sym .i64 (gvO n (kOf f) S (GO.mk 1 h a)).at_]), (2, .arr 1 [.int .i64] false l f), (3, .cells 9 (.map 4 :: lsL (gvS n (kOf f) S (GO.mk 1 h a)).st (gvS n (kOf f) S (GO.mk 1 h a)).L)), (4, .map 115 (gvS n (kOf f) S (GO.mk 1 h a)).M)], 0, [1, 3, 4], [FT = tabF tab, U64 S, n ≤ l, 0 ≤ a, a + 1 < Int.ofNat n, n ≤ 1000000, IntKind.i64.wrap (a + 1) = IntKind.i64.wrap (Int.ofNat n - 1)]⟩
noncomputable def gv1bH (n : Nat) (l : Nat) (f : Nat → Nat → AV) (h : Int) (a : Int) (S : MS) (FT : Nat → Nat → AV) : List (Nat × AO) := [(gnm 0, .arr tab.length (tab.map kindOfV) true 1 FT), (1, .cells 4 [.int .i64 1, .sym .u64 h, .ss 1 2 0 n none, .sym .i64 a]), (2, .arr 1 [.int .i64] false l f), (3, .cells 9 (.map 4 :: lsL S.st S.L)), (4, .map 115 S.M)]
noncomputable def gv1bR (n : Nat) (l : Nat) (f : Nat → Nat → AV) (h : Int) (a : Int) (S : MS) (FT : Nat → Nat → AV) : LR := ⟨4, .symb (decide ((gvO n (kOf f) S (GO.mk 1 h a)).ln = 0)), [(gnm 0, .arr tab.length (tab.map kindOfV) true 1 FT), (1, .cells 4 [.sym .i64 (gvO n (kOf f) S (GO.mk 1 h a)).ln, .sym .u64 (gvO n (kOf f) S (GO.mk 1 h a)).h, .ss 1 2 0 n none, .sym .i64 (gvO n (kOf f) S (GO.mk 1 h a)).at_]), (2, .arr 1 [.int .i64] false l f), (3, .cells 9 (.map 4 :: lsL (gvS n (kOf f) S (GO.mk 1 h a)).st (gvS n (kOf f) S (GO.mk 1 h a)).L)), (4, .map 115 (gvS n (kOf f) S (GO.mk 1 h a)).M)], 0, [1, 3, 4], [FT = tabF tab, U64 S, n ≤ l, 0 ≤ a, a + 1 < Int.ofNat n, n ≤ 1000000, ¬ IntKind.i64.wrap (a + 1) = IntKind.i64.wrap (Int.ofNat n - 1)]⟩
noncomputable def gv2H (n : Nat) (l : Nat) (f : Nat → Nat → AV) (h : Int) (a : Int) (S : MS) (FT : Nat → Nat → AV) : List (Nat × AO) := [(gnm 0, .arr tab.length (tab.map kindOfV) true 1 FT), (1, .cells 4 [.int .i64 2, .sym .u64 h, .ss 1 2 0 n none, .sym .i64 a]), (2, .arr 1 [.int .i64] false l f), (3, .cells 9 (.map 4 :: lsL S.st S.L)), (4, .map 115 S.M)]
noncomputable def gv2R (n : Nat) (l : Nat) (f : Nat → Nat → AV) (h : Int) (a : Int) (S : MS) (FT : Nat → Nat → AV) : LR := ⟨4, .symb (decide ((gvO n (kOf f) S (GO.mk 2 h a)).ln = 0)), [(gnm 0, .arr tab.length (tab.map kindOfV) true 1 FT), (1, .cells 4 [.sym .i64 (gvO n (kOf f) S (GO.mk 2 h a)).ln, .sym .u64 (gvO n (kOf f) S (GO.mk 2 h a)).h, .ss 1 2 0 n none, .sym .i64 (gvO n (kOf f) S (GO.mk 2 h a)).at_]), (2, .arr 1 [.int .i64] false l f), (3, .cells 9 (.map 4 :: lsL (gvS n (kOf f) S (GO.mk 2 h a)).st (gvS n (kOf f) S (GO.mk 2 h a)).L)), (4, .map 115 (gvS n (kOf f) S (GO.mk 2 h a)).M)], 0, [1, 3, 4], [FT = tabF tab, U64 S]⟩
noncomputable def gv3H (n : Nat) (l : Nat) (f : Nat → Nat → AV) (h : Int) (a : Int) (S : MS) (FT : Nat → Nat → AV) : List (Nat × AO) := [(gnm 0, .arr tab.length (tab.map kindOfV) true 1 FT), (1, .cells 4 [.int .i64 3, .sym .u64 h, .ss 1 2 0 n none, .sym .i64 a]), (2, .arr 1 [.int .i64] false l f), (3, .cells 9 (.map 4 :: lsL S.st S.L)), (4, .map 115 S.M)]
noncomputable def gv3R (n : Nat) (l : Nat) (f : Nat → Nat → AV) (h : Int) (a : Int) (S : MS) (FT : Nat → Nat → AV) : LR := ⟨4, .symb (decide ((gvO n (kOf f) S (GO.mk 3 h a)).ln = 0)), [(gnm 0, .arr tab.length (tab.map kindOfV) true 1 FT), (1, .cells 4 [.sym .i64 (gvO n (kOf f) S (GO.mk 3 h a)).ln, .sym .u64 (gvO n (kOf f) S (GO.mk 3 h a)).h, .ss 1 2 0 n none, .sym .i64 (gvO n (kOf f) S (GO.mk 3 h a)).at_]), (2, .arr 1 [.int .i64] false l f), (3, .cells 9 (.map 4 :: lsL (gvS n (kOf f) S (GO.mk 3 h a)).st (gvS n (kOf f) S (GO.mk 3 h a)).L)), (4, .map 115 (gvS n (kOf f) S (GO.mk 3 h a)).M)], 0, [1, 3, 4], [FT = tabF tab, U64 S, n ≤ l, R64 h, 0 < n, n ≤ 1000000]⟩
noncomputable def gv4aH (n : Nat) (l : Nat) (f : Nat → Nat → AV) (h : Int) (a : Int) (S : MS) (FT : Nat → Nat → AV) : List (Nat × AO) := [(gnm 0, .arr tab.length (tab.map kindOfV) true 1 FT), (1, .cells 4 [.int .i64 4, .sym .u64 h, .ss 1 2 0 n none, .sym .i64 a]), (2, .arr 1 [.int .i64] false l f), (3, .cells 9 (.map 4 :: lsL S.st S.L)), (4, .map 115 S.M)]
noncomputable def gv4aR (n : Nat) (l : Nat) (f : Nat → Nat → AV) (h : Int) (a : Int) (S : MS) (FT : Nat → Nat → AV) : LR := ⟨4, .symb (decide ((gvO n (kOf f) S (GO.mk 4 h a)).ln = 0)), [(gnm 0, .arr tab.length (tab.map kindOfV) true 1 FT), (1, .cells 4 [.sym .i64 (gvO n (kOf f) S (GO.mk 4 h a)).ln, .sym .u64 (gvO n (kOf f) S (GO.mk 4 h a)).h, .ss 1 2 0 n none, .sym .i64 (gvO n (kOf f) S (GO.mk 4 h a)).at_]), (2, .arr 1 [.int .i64] false l f), (3, .cells 9 (.map 4 :: lsL (gvS n (kOf f) S (GO.mk 4 h a)).st (gvS n (kOf f) S (GO.mk 4 h a)).L)), (4, .map 115 (gvS n (kOf f) S (GO.mk 4 h a)).M)], 0, [1, 3, 4], [FT = tabF tab, U64 S, n ≤ l, R64 h, 0 < n, n ≤ 1000000, casD S.M 4 0 0 h = true]⟩
noncomputable def gv4bH (n : Nat) (l : Nat) (f : Nat → Nat → AV) (h : Int) (a : Int) (S : MS) (FT : Nat → Nat → AV) : List (Nat × AO) := [(gnm 0, .arr tab.length (tab.map kindOfV) true 1 FT), (1, .cells 4 [.int .i64 4, .sym .u64 h, .ss 1 2 0 n none, .sym .i64 a]), (2, .arr 1 [.int .i64] false l f), (3, .cells 9 (.map 4 :: lsL S.st S.L)), (4, .map 115 S.M)]
noncomputable def gv4bR (n : Nat) (l : Nat) (f : Nat → Nat → AV) (h : Int) (a : Int) (S : MS) (FT : Nat → Nat → AV) : LR := ⟨4, .symb (decide ((gvO n (kOf f) S (GO.mk 4 h a)).ln = 0)), [(gnm 0, .arr tab.length (tab.map kindOfV) true 1 FT), (1, .cells 4 [.sym .i64 (gvO n (kOf f) S (GO.mk 4 h a)).ln, .sym .u64 (gvO n (kOf f) S (GO.mk 4 h a)).h, .ss 1 2 0 n none, .sym .i64 (gvO n (kOf f) S (GO.mk 4 h a)).at_]), (2, .arr 1 [.int .i64] false l f), (3, .cells 9 (.map 4 :: lsL (gvS n (kOf f) S (GO.mk 4 h a)).st (gvS n (kOf f) S (GO.mk 4 h a)).L)), (4, .map 115 (gvS n (kOf f) S (GO.mk 4 h a)).M)], 0, [1, 3, 4], [FT = tabF tab, U64 S, n ≤ l, R64 h, 0 < n, n ≤ 1000000, ¬ casD S.M 4 0 0 h = true]⟩
end Go.Proofs.YtmndhjodbnojdaaDoor
