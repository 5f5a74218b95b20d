/-
  Other names: definitions.
-/
import Derived.Test.YtmlfmmnnbdlabaaEvCore
namespace Go.Ev

def plainSh : List CK → Bool
  | [] => true
  | .val :: _ => false
  | _ :: r => plainSh r


/-! ### other names -/
mutual
def renV (f : Nat → Option Nat) : AV → Option AV
  | .top => some .top
  | .int k n => some (.int k n)
  | .sym k n => some (.sym k n)
  | .bool b => some (.bool b)
  | .symb b => some (.symb b)
  | .nilp => some .nilp
  | .ptr b i j => match f b with
    | some b => some (.ptr b i j)
    | none => none
  | .nils => some .nils
  | .xs wd b o l c => match f b with
    | some b => some (.xs wd b o l c)
    | none => none
  | .ss wd b o l c => match f b with
    | some b => some (.ss wd b o l c)
    | none => none
  | .nilm => some .nilm
  | .map b => match f b with
    | some b => some (.map b)
    | none => none
  | .nilf => some .nilf
  | .func g l m => match renL f l, renL f m with
    | some l, some m => some (.func g l m)
    | _, _ => none
  | .nili => some .nili
  | .iface t v => match renV f v with
    | some v => some (.iface t v)
    | none => none
  | .agg l => match renL f l with
    | some l => some (.agg l)
    | none => none
  | .tup l => match renL f l with
    | some l => some (.tup l)
    | none => none
  | .stamp _ => none
  | .raw v => some (.raw v)
def renL (f : Nat → Option Nat) : List AV → Option (List AV)
  | [] => some []
  | v :: r => match renV f v, renL f r with
    | some v, some r => some (v :: r)
    | _, _ => none
end

def renO (f : Nat → Option Nat) : AO → Option AO
  | .cells wd l => match renL f l with
    | some l => some (.cells wd l)
    | none => none
  | .arr wd sh ro len g => match plainSh sh with
    | true => some (.arr wd sh ro len g)
    | false => none
  | .map t m => some (.map t m)
  | .mapP .. => none

def idxOf : List Nat → Nat → Nat → Option Nat
  | [], _, _ => none
  | b :: r, k, n => match Nat.beq b n with
    | true => some k
    | false => idxOf r (k + 1) n

def toLoc (r : List Nat) (n : Nat) : Option Nat := match Nat.ble (gnm 0) n with
  | true => some n
  | false => idxOf r 1 n

def toOut (r : List Nat) (nxt k : Nat) (l : Nat) : Option Nat := match Nat.ble (gnm 0) l with
  | true => some l
  | false => match l with
    | 0 => none
    | l + 1 => match nth r l with
      | some b => some b
      | none => match Nat.blt (l - r.length) k with
        | true => some (nxt + (l - r.length))
        | false => none

def notGlob : List Nat → List Nat
  | [] => []
  | n :: r => match Nat.ble (gnm 0) n with
    | true => notGlob r
    | false => n :: notGlob r

def revN : List Nat → List Nat → List Nat
  | [], l => l
  | n :: r, l => revN r (n :: l)

def locHeap (f : Nat → Option Nat) (heap : List (Nat × AO)) : List Nat → Option (List (Nat × AO))
  | [] => some []
  | b :: l => match f b, get heap b with
    | some k, some o => match renO f o, locHeap f heap l with
      | some o, some t => some ((k, o) :: t)
      | _, _ => none
    | _, _ => none

def outHeap (g : Nat → Option Nat) (res heap : List (Nat × AO)) : Nat → Option (List (Nat × AO))
  | 0 => some heap
  | l + 1 => match outHeap g res heap l, g (l + 1) with
    | some hp, some b => match get res (l + 1) with
      | some o => match renO g o with
        | some o => some (set hp b o)
        | none => none
      | none => some (del hp b)
    | _, _ => none

def outNames (g : Nat → Option Nat) : List Nat → Option (List Nat)
  | [] => some []
  | l :: r => match Nat.ble (gnm 0) l, g l, outNames g r with
    | false, some b, some t => some (b :: t)
    | _, _, _ => none

def nodupB : List Nat → Bool
  | [] => true
  | n :: r => match mem n r with
    | true => false
    | false => nodupB r

/-- The names of package-level variables that a heap tells of, behind others. -/
def addGlobs : List (Nat × AO) → List Nat → List Nat
  | [], l => l
  | (n, _) :: r, l => match Nat.ble (gnm 0) n with
    | true => addGlobs r (add n l)
    | false => addGlobs r l


/-- A heap behind a loop that was seen under names of its own: what was not shown stays. -/
def outHeapP (g : Nat → Option Nat) (res heap : List (Nat × AO)) (p q : Nat) : Nat → Option (List (Nat × AO))
  | 0 => some heap
  | l + 1 => match Nat.blt p (l + 1), Nat.ble (l + 1) q with
    | true, true => outHeapP g res heap p q l
    | _, _ => match outHeapP g res heap p q l, g (l + 1) with
      | some hp, some b => match get res (l + 1) with
        | some o => match renO g o with
          | some o => some (set hp b o)
          | none => none
        | none => some (del hp b)
      | _, _ => none

def notGlobB : List Nat → Bool
  | [] => true
  | n :: r => match Nat.blt n (gnm 0) with
    | true => notGlobB r
    | false => false

def allIn (heap : List (Nat × AO)) : List Nat → Bool
  | [] => true
  | n :: r => match get heap n with
    | some _ => allIn heap r
    | none => false

/-- No object at names from p + 1 to q. -/
def noneAt (p q : Nat) : List (Nat × AO) → Bool
  | [] => true
  | (n, _) :: r => match Nat.blt p n, Nat.ble n q with
    | true, true => false
    | _, _ => noneAt p q r
end Go.Ev
