/-
  Steps of a Pop, of a Push: line by line: definitions.
-/
import Derived.Test.YtljeiencnpnbkaaDoorUWd
import Derived.Test.YtljeiencnpnbkaaDoorUMs
import Derived.Test.YtljeiencnpnbkaaDoorEvFam
import Derived.Test.YtljeiencnpnbkaaDoorEvLoc2
set_option linter.unusedSimpArgs false
set_option linter.unusedVariables false
namespace Go.Proofs.YtljeiencnpnbkaaDoor
open Go.Ev
/-- A Pop: line, head, next, slot, ok. -/
structure PO where
  ln : Int
  h : Int
  nx : Int
  sl : Int
  ok : Bool
/-- A Push: line, head, slot. -/
structure UO where
  ln : Int
  h : Int
  sl : Int
def Ln3 (l : Int) : Prop := l = 0 ∨ l = 1 ∨ l = 2 ∨ l = 3
def R64 (h : Int) : Prop := 0 ≤ h ∧ h < 18446744073709551616
def hd0 (S : MS) : Int := mget S.M (key 0 0 0)
def popO (S : MS) (o : PO) : PO :=
  if o.ln = 1 then (if hSlot (hd0 S) < 0 then ⟨0, hd0 S, o.nx, o.sl, o.ok⟩ else ⟨2, hd0 S, o.nx, o.sl, o.ok⟩)
  else if o.ln = 2 then ⟨3, o.h, hSlot (mget S.M (key 9 (hSlot o.h) 2)), o.sl, o.ok⟩
  else if o.ln = 3 then (if casD S.M 0 0 0 o.h = true then ⟨0, o.h, o.nx, hSlot o.h, true⟩ else ⟨1, o.h, o.nx, o.sl, o.ok⟩)
  else o
def popS (S : MS) (o : PO) : MS :=
  if o.ln = 1 then mLoad S 0 0 0
  else if o.ln = 2 then mLoad S 9 (hSlot o.h) 2
  else if o.ln = 3 then mCas S 0 0 0 o.h (hHead o.nx (IntKind.u64.wrap (hTag o.h + 1)))
  else S
def pshO (S : MS) (o : UO) : UO :=
  if o.ln = 1 then ⟨2, hd0 S, o.sl⟩
  else if o.ln = 2 then ⟨3, o.h, o.sl⟩
  else if o.ln = 3 then (if casD S.M 0 0 0 o.h = true then ⟨0, o.h, o.sl⟩ else ⟨1, o.h, o.sl⟩)
  else o
def pshS (S : MS) (o : UO) : MS :=
  if o.ln = 1 then mLoad S 0 0 0
  else if o.ln = 2 then mStore S 9 o.sl 2 (hHead (hSlot o.h) 0)
  else if o.ln = 3 then mCas S 0 0 0 o.h (hHead o.sl (IntKind.u64.wrap (hTag o.h + 1)))
  else S
theorem popO_1a {S : MS} {h nx sl : Int} {ok : Bool} (hs : hSlot (mget S.M (key 0 0 0)) < 0) : popO S ⟨1, h, nx, sl, ok⟩ = ⟨0, mget S.M (key 0 0 0), nx, sl, ok⟩ := if_pos hs
theorem popO_1b {S : MS} {h nx sl : Int} {ok : Bool} (hs : ¬ hSlot (mget S.M (key 0 0 0)) < 0) : popO S ⟨1, h, nx, sl, ok⟩ = ⟨2, mget S.M (key 0 0 0), nx, sl, ok⟩ := if_neg hs
theorem popO_3a {S : MS} {h nx sl : Int} {ok : Bool} (hs : casD S.M 0 0 0 h = true) : popO S ⟨3, h, nx, sl, ok⟩ = ⟨0, h, nx, hSlot h, true⟩ := if_pos hs
theorem popO_3b {S : MS} {h nx sl : Int} {ok : Bool} (hs : ¬ casD S.M 0 0 0 h = true) : popO S ⟨3, h, nx, sl, ok⟩ = ⟨1, h, nx, sl, ok⟩ := if_neg hs
theorem pshO_3a {S : MS} {h sl : Int} (hs : casD S.M 0 0 0 h = true) : pshO S ⟨3, h, sl⟩ = ⟨0, h, sl⟩ := if_pos hs
theorem pshO_3b {S : MS} {h sl : Int} (hs : ¬ casD S.M 0 0 0 h = true) : pshO S ⟨3, h, sl⟩ = ⟨1, h, sl⟩ := if_neg hs
noncomputable def EFs : Env := envG Tryd.prog ([(107, tabSP 0 tab ashS), (189, tabSP 0 tab hdS)] ++ memSP)
theorem EFs_ok : EnvOk EFs := envG_ok mgood ⟨tabSP_ok rfl ashS_ok, tabSP_ok rfl hdS_ok, memSP_ok⟩
theorem wrap_u (e : Int) : 0 ≤ IntKind.u64.wrap e ∧ IntKind.u64.wrap e < 18446744073709551616 := w64_r e

noncomputable def pop0H (h : Int) (nx : Int) (sl : Int) (ok : Bool) (S : MS) (FT : Nat → Nat → AV) : List (Nat × AO) := [(gnm 0, .arr tab.length (tab.map kindOfV) true 1 FT), (1, .cells 5 [.int .i64 0, .sym .u64 h, .sym .i64 nx, .sym .i64 sl, .symb ok]), (2, .cells 9 (.map 3 :: lsL S.st S.L)), (3, .map 110 S.M)]
noncomputable def pop0R (h : Int) (nx : Int) (sl : Int) (ok : Bool) (S : MS) (FT : Nat → Nat → AV) : LR := ⟨3, .symb (decide ((popO S (PO.mk 0 h nx sl ok)).ln = 0)), [(gnm 0, .arr tab.length (tab.map kindOfV) true 1 FT), (1, .cells 5 [.sym .i64 ((popO S (PO.mk 0 h nx sl ok))).ln, .sym .u64 ((popO S (PO.mk 0 h nx sl ok))).h, .sym .i64 ((popO S (PO.mk 0 h nx sl ok))).nx, .sym .i64 ((popO S (PO.mk 0 h nx sl ok))).sl, .symb ((popO S (PO.mk 0 h nx sl ok))).ok]), (2, .cells 9 (.map 3 :: lsL (popS S (PO.mk 0 h nx sl ok)).st (popS S (PO.mk 0 h nx sl ok)).L)), (3, .map 110 (popS S (PO.mk 0 h nx sl ok)).M)], 0, [1, 2, 3], [FT = tabF tab, U64 S]⟩
noncomputable def pop1aH (h : Int) (nx : Int) (sl : Int) (ok : Bool) (S : MS) (FT : Nat → Nat → AV) : List (Nat × AO) := [(gnm 0, .arr tab.length (tab.map kindOfV) true 1 FT), (1, .cells 5 [.int .i64 1, .sym .u64 h, .sym .i64 nx, .sym .i64 sl, .symb ok]), (2, .cells 9 (.map 3 :: lsL S.st S.L)), (3, .map 110 S.M)]
noncomputable def pop1aR (h : Int) (nx : Int) (sl : Int) (ok : Bool) (S : MS) (FT : Nat → Nat → AV) : LR := ⟨3, .symb (decide ((popO S (PO.mk 1 h nx sl ok)).ln = 0)), [(gnm 0, .arr tab.length (tab.map kindOfV) true 1 FT), (1, .cells 5 [.sym .i64 ((popO S (PO.mk 1 h nx sl ok))).ln, .sym .u64 ((popO S (PO.mk 1 h nx sl ok))).h, .sym .i64 ((popO S (PO.mk 1 h nx sl ok))).nx, .sym .i64 ((popO S (PO.mk 1 h nx sl ok))).sl, .symb ((popO S (PO.mk 1 h nx sl ok))).ok]), (2, .cells 9 (.map 3 :: lsL (popS S (PO.mk 1 h nx sl ok)).st (popS S (PO.mk 1 h nx sl ok)).L)), (3, .map 110 (popS S (PO.mk 1 h nx sl ok)).M)], 0, [1, 2, 3], [FT = tabF tab, U64 S, hSlot (mget S.M (key 0 0 0)) < 0]⟩
noncomputable def pop1bH (h : Int) (nx : Int) (sl : Int) (ok : Bool) (S : MS) (FT : Nat → Nat → AV) : List (Nat × AO) := [(gnm 0, .arr tab.length (tab.map kindOfV) true 1 FT), (1, .cells 5 [.int .i64 1, .sym .u64 h, .sym .i64 nx, .sym .i64 sl, .symb ok]), (2, .cells 9 (.map 3 :: lsL S.st S.L)), (3, .map 110 S.M)]
noncomputable def pop1bR (h : Int) (nx : Int) (sl : Int) (ok : Bool) (S : MS) (FT : Nat → Nat → AV) : LR := ⟨3, .symb (decide ((popO S (PO.mk 1 h nx sl ok)).ln = 0)), [(gnm 0, .arr tab.length (tab.map kindOfV) true 1 FT), (1, .cells 5 [.sym .i64 ((popO S (PO.mk 1 h nx sl ok))).ln, .sym .u64 ((popO S (PO.mk 1 h nx sl ok))).h, .sym .i64 ((popO S (PO.mk 1 h nx sl ok))).nx, .sym .i64 ((popO S (PO.mk 1 h nx sl ok))).sl, .symb ((popO S (PO.mk 1 h nx sl ok))).ok]), (2, .cells 9 (.map 3 :: lsL (popS S (PO.mk 1 h nx sl ok)).st (popS S (PO.mk 1 h nx sl ok)).L)), (3, .map 110 (popS S (PO.mk 1 h nx sl ok)).M)], 0, [1, 2, 3], [FT = tabF tab, U64 S, ¬ hSlot (mget S.M (key 0 0 0)) < 0]⟩
noncomputable def pop2H (h : Int) (nx : Int) (sl : Int) (ok : Bool) (S : MS) (FT : Nat → Nat → AV) : List (Nat × AO) := [(gnm 0, .arr tab.length (tab.map kindOfV) true 1 FT), (1, .cells 5 [.int .i64 2, .sym .u64 h, .sym .i64 nx, .sym .i64 sl, .symb ok]), (2, .cells 9 (.map 3 :: lsL S.st S.L)), (3, .map 110 S.M)]
noncomputable def pop2R (h : Int) (nx : Int) (sl : Int) (ok : Bool) (S : MS) (FT : Nat → Nat → AV) : LR := ⟨3, .symb (decide ((popO S (PO.mk 2 h nx sl ok)).ln = 0)), [(gnm 0, .arr tab.length (tab.map kindOfV) true 1 FT), (1, .cells 5 [.sym .i64 ((popO S (PO.mk 2 h nx sl ok))).ln, .sym .u64 ((popO S (PO.mk 2 h nx sl ok))).h, .sym .i64 ((popO S (PO.mk 2 h nx sl ok))).nx, .sym .i64 ((popO S (PO.mk 2 h nx sl ok))).sl, .symb ((popO S (PO.mk 2 h nx sl ok))).ok]), (2, .cells 9 (.map 3 :: lsL (popS S (PO.mk 2 h nx sl ok)).st (popS S (PO.mk 2 h nx sl ok)).L)), (3, .map 110 (popS S (PO.mk 2 h nx sl ok)).M)], 0, [1, 2, 3], [FT = tabF tab, U64 S, R64 h]⟩
noncomputable def pop3aH (h : Int) (nx : Int) (sl : Int) (ok : Bool) (S : MS) (FT : Nat → Nat → AV) : List (Nat × AO) := [(gnm 0, .arr tab.length (tab.map kindOfV) true 1 FT), (1, .cells 5 [.int .i64 3, .sym .u64 h, .sym .i64 nx, .sym .i64 sl, .symb ok]), (2, .cells 9 (.map 3 :: lsL S.st S.L)), (3, .map 110 S.M)]
noncomputable def pop3aR (h : Int) (nx : Int) (sl : Int) (ok : Bool) (S : MS) (FT : Nat → Nat → AV) : LR := ⟨3, .symb (decide ((popO S (PO.mk 3 h nx sl ok)).ln = 0)), [(gnm 0, .arr tab.length (tab.map kindOfV) true 1 FT), (1, .cells 5 [.sym .i64 ((popO S (PO.mk 3 h nx sl ok))).ln, .sym .u64 ((popO S (PO.mk 3 h nx sl ok))).h, .sym .i64 ((popO S (PO.mk 3 h nx sl ok))).nx, .sym .i64 ((popO S (PO.mk 3 h nx sl ok))).sl, .symb ((popO S (PO.mk 3 h nx sl ok))).ok]), (2, .cells 9 (.map 3 :: lsL (popS S (PO.mk 3 h nx sl ok)).st (popS S (PO.mk 3 h nx sl ok)).L)), (3, .map 110 (popS S (PO.mk 3 h nx sl ok)).M)], 0, [1, 2, 3], [FT = tabF tab, U64 S, R64 h, casD S.M 0 0 0 h = true]⟩
noncomputable def pop3bH (h : Int) (nx : Int) (sl : Int) (ok : Bool) (S : MS) (FT : Nat → Nat → AV) : List (Nat × AO) := [(gnm 0, .arr tab.length (tab.map kindOfV) true 1 FT), (1, .cells 5 [.int .i64 3, .sym .u64 h, .sym .i64 nx, .sym .i64 sl, .symb ok]), (2, .cells 9 (.map 3 :: lsL S.st S.L)), (3, .map 110 S.M)]
noncomputable def pop3bR (h : Int) (nx : Int) (sl : Int) (ok : Bool) (S : MS) (FT : Nat → Nat → AV) : LR := ⟨3, .symb (decide ((popO S (PO.mk 3 h nx sl ok)).ln = 0)), [(gnm 0, .arr tab.length (tab.map kindOfV) true 1 FT), (1, .cells 5 [.sym .i64 ((popO S (PO.mk 3 h nx sl ok))).ln, .sym .u64 ((popO S (PO.mk 3 h nx sl ok))).h, .sym .i64 ((popO S (PO.mk 3 h nx sl ok))).nx, .sym .i64 ((popO S (PO.mk 3 h nx sl ok))).sl, .symb ((popO S (PO.mk 3 h nx sl ok))).ok]), (2, .cells 9 (.map 3 :: lsL (popS S (PO.mk 3 h nx sl ok)).st (popS S (PO.mk 3 h nx sl ok)).L)), (3, .map 110 (popS S (PO.mk 3 h nx sl ok)).M)], 0, [1, 2, 3], [FT = tabF tab, U64 S, R64 h, ¬ casD S.M 0 0 0 h = true]⟩
noncomputable def psh0H (h : Int) (sl : Int) (S : MS) (FT : Nat → Nat → AV) : List (Nat × AO) := [(gnm 0, .arr tab.length (tab.map kindOfV) true 1 FT), (1, .cells 3 [.int .i64 0, .sym .u64 h, .sym .i64 sl]), (2, .cells 9 (.map 3 :: lsL S.st S.L)), (3, .map 110 S.M)]
noncomputable def psh0R (h : Int) (sl : Int) (S : MS) (FT : Nat → Nat → AV) : LR := ⟨3, .symb (decide ((pshO S (UO.mk 0 h sl)).ln = 0)), [(gnm 0, .arr tab.length (tab.map kindOfV) true 1 FT), (1, .cells 3 [.sym .i64 ((pshO S (UO.mk 0 h sl))).ln, .sym .u64 ((pshO S (UO.mk 0 h sl))).h, .sym .i64 ((pshO S (UO.mk 0 h sl))).sl]), (2, .cells 9 (.map 3 :: lsL (pshS S (UO.mk 0 h sl)).st (pshS S (UO.mk 0 h sl)).L)), (3, .map 110 (pshS S (UO.mk 0 h sl)).M)], 0, [1, 2, 3], [FT = tabF tab, U64 S]⟩
noncomputable def psh1H (h : Int) (sl : Int) (S : MS) (FT : Nat → Nat → AV) : List (Nat × AO) := [(gnm 0, .arr tab.length (tab.map kindOfV) true 1 FT), (1, .cells 3 [.int .i64 1, .sym .u64 h, .sym .i64 sl]), (2, .cells 9 (.map 3 :: lsL S.st S.L)), (3, .map 110 S.M)]
noncomputable def psh1R (h : Int) (sl : Int) (S : MS) (FT : Nat → Nat → AV) : LR := ⟨3, .symb (decide ((pshO S (UO.mk 1 h sl)).ln = 0)), [(gnm 0, .arr tab.length (tab.map kindOfV) true 1 FT), (1, .cells 3 [.sym .i64 ((pshO S (UO.mk 1 h sl))).ln, .sym .u64 ((pshO S (UO.mk 1 h sl))).h, .sym .i64 ((pshO S (UO.mk 1 h sl))).sl]), (2, .cells 9 (.map 3 :: lsL (pshS S (UO.mk 1 h sl)).st (pshS S (UO.mk 1 h sl)).L)), (3, .map 110 (pshS S (UO.mk 1 h sl)).M)], 0, [1, 2, 3], [FT = tabF tab, U64 S]⟩
noncomputable def psh2H (h : Int) (sl : Int) (S : MS) (FT : Nat → Nat → AV) : List (Nat × AO) := [(gnm 0, .arr tab.length (tab.map kindOfV) true 1 FT), (1, .cells 3 [.int .i64 2, .sym .u64 h, .sym .i64 sl]), (2, .cells 9 (.map 3 :: lsL S.st S.L)), (3, .map 110 S.M)]
noncomputable def psh2R (h : Int) (sl : Int) (S : MS) (FT : Nat → Nat → AV) : LR := ⟨3, .symb (decide ((pshO S (UO.mk 2 h sl)).ln = 0)), [(gnm 0, .arr tab.length (tab.map kindOfV) true 1 FT), (1, .cells 3 [.sym .i64 ((pshO S (UO.mk 2 h sl))).ln, .sym .u64 ((pshO S (UO.mk 2 h sl))).h, .sym .i64 ((pshO S (UO.mk 2 h sl))).sl]), (2, .cells 9 (.map 3 :: lsL (pshS S (UO.mk 2 h sl)).st (pshS S (UO.mk 2 h sl)).L)), (3, .map 110 (pshS S (UO.mk 2 h sl)).M)], 0, [1, 2, 3], [FT = tabF tab, U64 S, R64 h]⟩
noncomputable def psh3aH (h : Int) (sl : Int) (S : MS) (FT : Nat → Nat → AV) : List (Nat × AO) := [(gnm 0, .arr tab.length (tab.map kindOfV) true 1 FT), (1, .cells 3 [.int .i64 3, .sym .u64 h, .sym .i64 sl]), (2, .cells 9 (.map 3 :: lsL S.st S.L)), (3, .map 110 S.M)]
noncomputable def psh3aR (h : Int) (sl : Int) (S : MS) (FT : Nat → Nat → AV) : LR := ⟨3, .symb (decide ((pshO S (UO.mk 3 h sl)).ln = 0)), [(gnm 0, .arr tab.length (tab.map kindOfV) true 1 FT), (1, .cells 3 [.sym .i64 ((pshO S (UO.mk 3 h sl))).ln, .sym .u64 ((pshO S (UO.mk 3 h sl))).h, .sym .i64 ((pshO S (UO.mk 3 h sl))).sl]), (2, .cells 9 (.map 3 :: lsL (pshS S (UO.mk 3 h sl)).st (pshS S (UO.mk 3 h sl)).L)), (3, .map 110 (pshS S (UO.mk 3 h sl)).M)], 0, [1, 2, 3], [FT = tabF tab, U64 S, R64 h, casD S.M 0 0 0 h = true]⟩
noncomputable def psh3bH (h : Int) (sl : Int) (S : MS) (FT : Nat → Nat → AV) : List (Nat × AO) := [(gnm 0, .arr tab.length (tab.map kindOfV) true 1 FT), (1, .cells 3 [.int .i64 3, .sym .u64 h, .sym .i64 sl]), (2, .cells 9 (.map 3 :: lsL S.st S.L)), (3, .map 110 S.M)]
noncomputable def psh3bR (h : Int) (sl : Int) (S : MS) (FT : Nat → Nat → AV) : LR := ⟨3, .symb (decide ((pshO S (UO.mk 3 h sl)).ln = 0)), [(gnm 0, .arr tab.length (tab.map kindOfV) true 1 FT), (1, .cells 3 [.sym .i64 ((pshO S (UO.mk 3 h sl))).ln, .sym .u64 ((pshO S (UO.mk 3 h sl))).h, .sym .i64 ((pshO S (UO.mk 3 h sl))).sl]), (2, .cells 9 (.map 3 :: lsL (pshS S (UO.mk 3 h sl)).st (pshS S (UO.mk 3 h sl)).L)), (3, .map 110 (pshS S (UO.mk 3 h sl)).M)], 0, [1, 2, 3], [FT = tabF tab, U64 S, R64 h, ¬ casD S.M 0 0 0 h = true]⟩
end Go.Proofs.YtljeiencnpnbkaaDoor
