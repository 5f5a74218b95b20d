/-
  Histories: Under, Same: definitions.
-/
import Derived.Test.YtnecknppajbcdaaEvAux
import Derived.Test.YtnecknppajbcdaaHVoidDef
set_option linter.unusedSimpArgs false
set_option linter.unusedVariables false
namespace Go.Proofs.Ytnecknppajbcdaa
open Go.Ev

def cSh : List CK := [.int .i64, .int .u8, .int .u64, .int .u64, .int .u8, .int .u64, .int .i64, .int .i64, .int .i64]
def dSh : List CK := [.int .i64, .int .i64, .int .u64, .int .u64, .int .i64, .int .u64, .int .i64, .int .i64, .int .i64]
noncomputable def EH1 : Env := envOf Try.prog []
theorem EH1_ok : EnvOk EH1 := envOf_ok hgood trivial
structure Cl where
  th : Int
  op : Int
  ky : Int
  va : Int
  an : Int
  gt : Int
  fr : Int
  pt : Int
  to : Int
def clOf (r : Nat → AV) : Cl := ⟨avInt (r 0), avInt (r 1), avInt (r 2), avInt (r 3), avInt (r 4), avInt (r 5), avInt (r 6), avInt (r 7), avInt (r 8)⟩
def cR (c : Cl) : Nat → AV := fun j => match j with
  | 0 => .sym .i64 c.th
  | 1 => .sym .u8 c.op
  | 2 => .sym .u64 c.ky
  | 3 => .sym .u64 c.va
  | 4 => .sym .u8 c.an
  | 5 => .sym .u64 c.gt
  | 6 => .sym .i64 c.fr
  | 7 => .sym .i64 c.pt
  | 8 => .sym .i64 c.to
  | _ => .top
def dR (c : Cl) : Nat → AV := fun j => match j with
  | 0 => .sym .i64 c.th
  | 1 => .sym .i64 c.op
  | 2 => .sym .u64 c.ky
  | 3 => .sym .u64 c.va
  | 4 => .sym .i64 c.an
  | 5 => .sym .u64 c.gt
  | 6 => .sym .i64 c.fr
  | 7 => .sym .i64 c.pt
  | 8 => .sym .i64 c.to
  | _ => .top
def cF (C : Nat → Cl) : Nat → Nat → AV := fun i j => cR (C i) j
def dF (C : Nat → Cl) : Nat → Nat → AV := fun i j => dR (C i) j
def fCl (f : Nat → Nat → AV) : Nat → Cl := fun i => clOf (f i)
theorem row_c {f : Nat → AV} {c : Cl} (h : clOf f = c) : rowOb cSh 0 f (cR c) := by
  subst h; exact ⟨rfl, rfl, rfl, rfl, rfl, rfl, rfl, rfl, rfl, trivial⟩
theorem row_d {f : Nat → AV} {c : Cl} (h : clOf f = c) : rowOb dSh 0 f (dR c) := by
  subst h; exact ⟨rfl, rfl, rfl, rfl, rfl, rfl, rfl, rfl, rfl, trivial⟩
def undI (U : List Int → Option Int) (t : Int) : Int := match U [t] with
  | some i => i
  | none => -1

noncomputable def undH (t : Int) (n l : Nat) (f : Nat → Nat → AV) (U : List Int → Option Int) (last : Int) : List (Nat × AO) := [(1, .cells 3 [.ss 9 2 0 n none, .map 3, .sym .i64 last]), (2, .arr 9 cSh false l f), (3, .map 76 U)]
noncomputable def undR (t : Int) (n l : Nat) (f : Nat → Nat → AV) (U : List Int → Option Int) (last : Int) : LR := ⟨3, .sym .i64 (undI U t), [(1, .cells 3 [.ss 9 2 0 n none, .map 3, .sym .i64 last]), (2, .arr 9 cSh false l f), (3, .map 76 U)], 0, [], []⟩
def rundP (t : Int) (n l : Nat) (g : Nat → Nat → AV) (last : Int) (i : Nat) : Bool := and2 (avInt (g (0 + i) 0) == t) (decide (avInt (g (0 + i) 8) < 0))
noncomputable def rundH (t : Int) (n l : Nat) (g : Nat → Nat → AV) (last : Int) : List (Nat × AO) := [(1, .cells 2 [.ss 9 2 0 n none, .sym .i64 last]), (2, .arr 9 dSh false l g)]
noncomputable def rundU (t : Int) (n l : Nat) (g : Nat → Nat → AV) (last : Int) : St := ⟨[.ptr 1 0 0, .sym .i64 t, .top, .top, .top, .int .i64 0] ++ List.replicate 31 .top, ⟨rundH t n l g last, 3, gnm 0, [], [], [], false⟩⟩
noncomputable def rundT (t : Int) (n l : Nat) (g : Nat → Nat → AV) (last : Int) (i : Nat) : St := ⟨[.ptr 1 0 0, .sym .i64 t, .top, .top, .top, .sym .i64 (Int.ofNat i)] ++ List.replicate 31 .top, ⟨rundH t n l g last, 3, gnm 0, [], [], [], false⟩⟩
noncomputable def rundQ (t : Int) (n l : Nat) (g : Nat → Nat → AV) (last : Int) (k : Nat) : St := ⟨[.top, .top, .top, .top, .sym .i64 (Int.ofNat k)] ++ List.replicate 32 .top, ⟨rundH t n l g last, 3, gnm 0, [], [], [], false⟩⟩
noncomputable def rundS (t : Int) (n l : Nat) (g : Nat → Nat → AV) (last : Int) : St := ⟨[] ++ List.replicate 37 .top, ⟨rundH t n l g last, 3, gnm 0, [], [], [], false⟩⟩
noncomputable def rundR (t : Int) (n l : Nat) (g : Nat → Nat → AV) (last : Int) : LR := ⟨2, .sym .i64 (srch (rundP t n l g last) n (fun i => Int.ofNat i) (-1)), rundH t n l g last, 0, [], [n ≤ l, n ≤ 1000000]⟩
noncomputable abbrev rundL : Code := loopAt Try.prog 34 0
noncomputable def rundLF (t : Int) (n l : Nat) (g : Nat → Nat → AV) (last : Int) (k : Nat) : Prop := LoopHolds Try.prog rundL (rundU t n l g last) .ret (rundQ t n l g last k)
noncomputable def rundLN (t : Int) (n l : Nat) (g : Nat → Nat → AV) (last : Int) : Prop := LoopHolds Try.prog rundL (rundU t n l g last) (.exit 0) (rundS t n l g last)
def samP (n m l1 l2 : Nat) (c1 c2 : Option Nat) (r1 r2 : Bool) (f g : Nat → Nat → AV) (i : Nat) : Bool := (and2 (avInt (f (0 + i) 0) == avInt (g (0 + i) 0)) (and2 (IntKind.i64.wrap (avInt (f (0 + i) 1)) == avInt (g (0 + i) 1)) (and2 (avInt (f (0 + i) 2) == avInt (g (0 + i) 2)) (and2 (avInt (f (0 + i) 3) == avInt (g (0 + i) 3)) (and2 (IntKind.i64.wrap (avInt (f (0 + i) 4)) == avInt (g (0 + i) 4)) (and2 (avInt (f (0 + i) 5) == avInt (g (0 + i) 5)) (and2 (avInt (f (0 + i) 6) == avInt (g (0 + i) 6)) (and2 (avInt (f (0 + i) 7) == avInt (g (0 + i) 7)) (and2 (avInt (f (0 + i) 8) == avInt (g (0 + i) 8)) true))))))))) == false
noncomputable def samH (n m l1 l2 : Nat) (c1 c2 : Option Nat) (r1 r2 : Bool) (f g : Nat → Nat → AV) : List (Nat × AO) := [(1, .arr 9 cSh r1 l1 f), (2, .arr 9 dSh r2 l2 g)]
noncomputable def samU (n m l1 l2 : Nat) (c1 c2 : Option Nat) (r1 r2 : Bool) (f g : Nat → Nat → AV) : St := ⟨[.ss 9 1 0 n c1, .ss 9 2 0 m c2, .top, .top, .bool false, .int .i64 0] ++ List.replicate 21 .top, ⟨samH n m l1 l2 c1 c2 r1 r2 f g, 3, gnm 0, [], [], [], false⟩⟩
noncomputable def samT (n m l1 l2 : Nat) (c1 c2 : Option Nat) (r1 r2 : Bool) (f g : Nat → Nat → AV) (i : Nat) : St := ⟨[.ss 9 1 0 n c1, .ss 9 2 0 m c2, .top, .top, .bool false, .sym .i64 (Int.ofNat i)] ++ List.replicate 21 .top, ⟨samH n m l1 l2 c1 c2 r1 r2 f g, 3, gnm 0, [], [], [], false⟩⟩
noncomputable def samQ (n m l1 l2 : Nat) (c1 c2 : Option Nat) (r1 r2 : Bool) (f g : Nat → Nat → AV) (k : Nat) : St := ⟨[.top, .top, .top, .top, .bool false] ++ List.replicate 22 .top, ⟨samH n m l1 l2 c1 c2 r1 r2 f g, 3, gnm 0, [], [], [], false⟩⟩
noncomputable def samS (n m l1 l2 : Nat) (c1 c2 : Option Nat) (r1 r2 : Bool) (f g : Nat → Nat → AV) : St := ⟨[] ++ List.replicate 27 .top, ⟨samH n m l1 l2 c1 c2 r1 r2 f g, 3, gnm 0, [], [], [], false⟩⟩
noncomputable def samR (n m l1 l2 : Nat) (c1 c2 : Option Nat) (r1 r2 : Bool) (f g : Nat → Nat → AV) : LR := ⟨2, .bool true, samH n m l1 l2 c1 c2 r1 r2 f g, 0, [], [n ≤ l1, n ≤ l2, n = m, n ≤ 1000000, ∀ i, i < n → samP n m l1 l2 c1 c2 r1 r2 f g i = false]⟩
noncomputable abbrev samL : Code := loopAt Try.prog 32 0
noncomputable def samLF (n m l1 l2 : Nat) (c1 c2 : Option Nat) (r1 r2 : Bool) (f g : Nat → Nat → AV) (k : Nat) : Prop := LoopHolds Try.prog samL (samU n m l1 l2 c1 c2 r1 r2 f g) .ret (samQ n m l1 l2 c1 c2 r1 r2 f g k)
noncomputable def samLN (n m l1 l2 : Nat) (c1 c2 : Option Nat) (r1 r2 : Bool) (f g : Nat → Nat → AV) : Prop := LoopHolds Try.prog samL (samU n m l1 l2 c1 c2 r1 r2 f g) (.exit 0) (samS n m l1 l2 c1 c2 r1 r2 f g)
end Go.Proofs.Ytnecknppajbcdaa
