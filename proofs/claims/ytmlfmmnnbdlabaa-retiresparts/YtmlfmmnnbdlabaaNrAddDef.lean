/-
  The program's Add, and entries as a structure.
-/
import Derived.Test.YtmlfmmnnbdlabaaNrBorn
import Derived.Test.YtmlfmmnnbdlabaaEvNorm
set_option linter.unusedSimpArgs false
set_option linter.unusedVariables false
namespace Go.Proofs.Ytmlfmmnnbdlabaa
open Go.Ev

structure Ent where
  slot : Int
  gen : Int
  mark : Bool
  birth : Int
  epoch : Int
  era : Int

def entOf (r : Nat → AV) : Ent := ⟨avInt (r 0), avInt (r 1), avBool (r 2), avInt (r 3), avInt (r 4), avInt (r 5)⟩
def entR (e : Ent) : Nat → AV := fun j => match j with
  | 0 => .sym .i64 e.slot
  | 1 => .sym .u32 e.gen
  | 2 => .symb e.mark
  | 3 => .sym .u64 e.birth
  | 4 => .sym .u64 e.epoch
  | 5 => .sym .u64 e.era
  | _ => .top
def entF (E : Nat → Ent) : Nat → Nat → AV := fun i j => entR (E i) j
def entL (e : Ent) : List AV := [.sym .i64 e.slot, .sym .u32 e.gen, .symb e.mark, .sym .u64 e.birth, .sym .u64 e.epoch, .sym .u64 e.era]
def eKey (e : Ent) : List Int := [e.slot, e.gen, if e.mark = true then 1 else 0]

theorem row_ent {f : Nat → AV} {e : Ent} (h : entOf f = e) : rowOb eSh 0 f (entR e) := by
  subst h; exact ⟨rfl, rfl, rfl, rfl, rfl, rfl, trivial⟩

def c1 (e : Ent) : Bool := and2 (e.slot == e.slot) (and2 (e.gen == e.gen) (and2 (e.mark == false) true)) == true
def c2 (e : Ent) : Bool := decide (e.slot ≥ 0)
def c3 (e : Ent) : Bool := !decide (e.slot < 256)
def c4 (M : List Int → Option Int) (e : Ent) : Bool := decide (mget M (eKey e) > 0)
/-- What Add answers; 0: it comes in. -/
def addE (M : List Int → Option Int) (e : Ent) : Int := match c1 e with
  | false => 1
  | true => match c2 e with
    | false => 1
    | true => match c3 e with
      | true => 1
      | false => match c4 M e with
        | true => 8
        | false => 0
def addN (n : Nat) (M : List Int → Option Int) (e : Ent) : Nat := match addE M e with
  | 0 => n + 1
  | _ => n
def addF (n : Nat) (E : Nat → Ent) (e : Ent) : Nat → Ent := fun i => if i < n then E i else e
def addM (M : List Int → Option Int) (e : Ent) : List Int → Option Int := match addE M e with
  | 0 => setKey M (eKey e) (some 1)
  | _ => M

theorem add_rows {n : Nat} {f : Nat → Nat → AV} {e : Ent} {k : Nat} (h : k ≤ n) : ∀ i, i < k → rowOb eSh 0 (f i) (entF (addF n (fun i => entOf (f i)) e) i) := fun i hi => row_ent (by
  have : i < n := by omega
  simp [addF, this])
theorem add_rows' {n : Nat} {f : Nat → Nat → AV} {e : Ent} : ∀ i, i < n + 1 → rowOb eSh 0 (fun j => if i < n then f (0 + i) j else rowsOf 6 (entL e) (i - n) j) (entF (addF n (fun i => entOf (f i)) e) i) := fun i hi => by
  by_cases h : i < n
  · simp only [h, if_true, Nat.zero_add]
    exact row_ent (by simp [addF, h])
  · have : i = n := by omega
    subst this
    simp only [Nat.lt_irrefl, if_false, Nat.sub_self]
    exact row_ent (by simp [addF]; rfl)

section
variable (n l : Nat) (f : Nat → Nat → AV) (M : List Int → Option Int) (e : Ent)
noncomputable def lstH : List (Nat × AO) := [(1, .cells 2 [.ss 6 2 0 n none, .map 3]), (2, .arr 6 eSh false l f), (3, .map 119 M)]
noncomputable def addR : LR := ⟨3, .sym .i64 (addE M e), [(1, .cells 2 [.ss 6 4 0 (addN n M e) none, .map 3]), (4, .arr 6 eSh false (addN n M e) (entF (addF n (fun i => entOf (f i)) e))), (3, .map 119 (addM M e))], 1, [1, 2, 3], [n ≤ l, n ≤ 1000000]⟩
end
end Go.Proofs.Ytmlfmmnnbdlabaa
