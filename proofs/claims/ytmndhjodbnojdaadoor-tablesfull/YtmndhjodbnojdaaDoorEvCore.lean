/-
  A symbolic evaluator over the model's code: abstract values, a small local heap whose blocks have literal names, obligations for what
  is symbolic. This text: the definitions alone. Its soundness: EvSound.
-/
import Derived.Orders
import Derived.KernelRfl
namespace Go.Ev

/-- Abstract values. 'int', 'bool': closed: the evaluator may look at them; 'sym', 'symb': symbolic. 'ptr b i j': in block b, element i, cell j.
'xs', 'ss': slices of block b, of elements of wd cells, from element off on, of len elements; the last number is the capacity, none: up to the end of what is owned. -/
inductive AV where
  | top
  | int (k : IntKind) (n : Int)
  | sym (k : IntKind) (n : Int)
  | bool (b : Bool)
  | symb (b : Bool)
  | nilp
  | ptr (b i j : Nat)
  | nils
  | xs (wd b off len : Nat) (c : Option Nat)
  | ss (wd b off len : Nat) (c : Option Nat)
  | nilm
  | map (b : Nat)
  | nilf
  | func (f : Fn) (first captured : List AV)
  | nili
  | iface (t : TypeId) (v : AV)
  | agg (l : List AV)
  | tup (l : List AV)
  | stamp (n : Nat)
  | raw (v : Value)
  deriving Inhabited

/-- The kind of a cell of a symbolic array. -/
inductive CK where
  | int (k : IntKind)
  | bool
  | val

/-- Abstract objects. -/
inductive AO where
  | cells (wd : Nat) (l : List AV)
  | arr (wd : Nat) (sh : List CK) (ro : Bool) (len : Nat) (f : Nat → Nat → AV)
  | map (t : TypeId) (m : List Int → Option Int)
  | mapP (t : TypeId) (m : List Int → Option Int) (n : Nat) (k : List Int)

inductive Ex where
  | norm
  | exit (id : Nat)
  | goto (l : Nat)
  | ret

inductive Hint where
  | b (v : Bool)
  | n (v : Nat)
  | a (v : AV)
  | k (n : Nat)
  | l (n : Int)
  | node (l : List (Nat × List Hint))
  | lp (keep : List Nat) (e : Ex) (tmps : List AV) (heap : List (Nat × AO)) (nxt : Nat) (wr : List Nat)
  | lpl (keep r : List Nat) (p : Nat) (e : Ex) (tmps : List AV) (heap : List (Nat × AO)) (n : Nat) (wr : List Nat)

/-- The part of the state that operations share. -/
structure Hp where
  heap : List (Nat × AO)
  nxt : Nat
  hi : Nat
  hints : List Hint
  ob : List Prop
  wr : List Nat
  auto : Bool

structure St where
  tmps : List AV
  hp : Hp

/-! ### lists, kernel-friendly -/
def get {α : Type} : List (Nat × α) → Nat → Option α
  | [], _ => none
  | (n, x) :: r, k => match Nat.beq n k with
    | true => some x
    | false => get r k

def set {α : Type} : List (Nat × α) → Nat → α → List (Nat × α)
  | [], k, y => [(k, y)]
  | (n, x) :: r, k, y => match Nat.beq n k with
    | true => (n, y) :: r
    | false => (n, x) :: set r k y

def del {α : Type} : List (Nat × α) → Nat → List (Nat × α)
  | [], _ => []
  | (n, x) :: r, k => match Nat.beq n k with
    | true => del r k
    | false => (n, x) :: del r k

def nth {α : Type} : List α → Nat → Option α
  | [], _ => none
  | x :: r, k => match k with
    | 0 => some x
    | k + 1 => nth r k

def setNth {α : Type} : List α → Nat → α → List α
  | [], _, _ => []
  | x :: r, k, y => match k with
    | 0 => y :: r
    | k + 1 => x :: setNth r k y

def takeN {α : Type} : Nat → List α → Option (List α)
  | 0, _ => some []
  | n + 1, l => match l with
    | [] => none
    | x :: r => match takeN n r with
      | some t => some (x :: t)
      | none => none

def dropN {α : Type} : Nat → List α → List α
  | 0, l => l
  | n + 1, l => match l with
    | [] => []
    | _ :: r => dropN n r

def mem (k : Nat) : List Nat → Bool
  | [] => false
  | n :: r => match Nat.beq n k with
    | true => true
    | false => mem k r

def add (k : Nat) (l : List Nat) : List Nat := match mem k l with
  | true => l
  | false => k :: l

/-- Overwrite from place k on. -/
def splice {α : Type} : List α → Nat → List α → List α
  | l, _, [] => l
  | l, k, x :: r => splice (setNth l k x) (k + 1) r

def mapM' {α β : Type} (f : α → Option β) : List α → Option (List β)
  | [] => some []
  | x :: r => match f x with
    | none => none
    | some y => match mapM' f r with
      | none => none
      | some t => some (y :: t)

/-! ### values -/
def cellOf : Value → AV
  | .int k n => .int k n
  | .bool b => .bool b
  | .pointer none => .nilp
  | .slice none 0 0 => .nils
  | .map none => .nilm
  | .nilFunc => .nilf
  | .nilIface => .nili
  | v => .raw v

def ofVal : Value → AV
  | .agg cs => .agg (cs.toList.map cellOf)
  | v => cellOf v

/-- The cells of a value. -/
def AV.cells : AV → List AV
  | .agg l => l
  | v => [v]

def oneV : Value → Bool
  | .agg _ | .tuple _ => false
  | _ => true

/-- A value that may be stored into one cell. -/
def AV.oneCell : AV → Bool
  | .agg _ | .tup _ | .top => false
  | .raw v => oneV v
  | _ => true

def AV.known : AV → Bool
  | .top => false
  | _ => true

def allKnown : List AV → Bool
  | [] => true
  | x :: r => match x.known with
    | true => allKnown r
    | false => false

def allOne : List AV → Bool
  | [] => true
  | x :: r => match x.oneCell with
    | true => allOne r
    | false => false

/-- A symbolic integer, a truth value, out of a cell. -/
def avInt : AV → Int
  | .int _ n | .sym _ n => n
  | _ => 0

def avBool : AV → Bool
  | .bool b | .symb b => b
  | _ => false

/-! ### types -/
def sizeT (P : Program) (t : TypeId) : Option Nat := (P.info? t).map (·.size)

def isAggT (P : Program) (t : TypeId) : Option Bool := match P.underlying t with
  | some (.struct _) | some (.array _ _) => some true
  | some _ => some false
  | none => none

def zeroT (P : Program) (t : TypeId) : Option AV := match P.info? t with
  | some i => match i.zero with
    | some v => some (ofVal v)
    | none => none
  | none => none

/-! ### numbers: is a value closed? -/
/-- An integer: its kind, whether it is closed, the number. -/
def asI : AV → Option (IntKind × Bool × Int)
  | .int k n => some (k, true, n)
  | .sym k n => some (k, false, n)
  | _ => none

def mkI (k : IntKind) (c : Bool) (n : Int) : AV := match c with
  | true => .int k n
  | false => .sym k n

def asB : AV → Option (Bool × Bool)
  | .bool b => some (true, b)
  | .symb b => some (false, b)
  | _ => none

def mkB (c : Bool) (b : Bool) : AV := match c with
  | true => .bool b
  | false => .symb b

def and2 : Bool → Bool → Bool
  | true, b => b
  | false, _ => false

/-- A condition that must hold: an obligation; where all is closed ('auto') it is looked at here. -/
def Hp.need (h : Hp) (b : Bool) : Option Hp := match h.auto with
  | true => match b with
    | true => some h
    | false => none
  | false => some { h with ob := (b = true) :: h.ob }

def Hp.check (h : Hp) (closed : Bool) (b : Bool) : Option Hp := match closed with
  | true => match b with
    | true => some h
    | false => none
  | false => h.need b

/-- A truth value is decided: a closed one by itself, a symbolic one by a hint; '.k n': the next n tests by evaluation. -/
def Hp.dec (h : Hp) (v : AV) : Option (Bool × Hp) := match v with
  | .bool b => some (b, h)
  | .symb b => match h.hints with
    | .k n :: r => match n with
      | n + 1 => some (b, { h with hints := .k n :: r })
      | 0 => match r with
        | .b c :: r => some (c, { h with hints := r, ob := (b = c) :: h.ob })
        | .a _ :: _ => none
        | _ => match h.auto with
          | true => some (b, h)
          | false => none
    | l => match h.auto with
      | true => some (b, h)
      | false => match l with
        | .b c :: r => some (c, { h with hints := r, ob := (b = c) :: h.ob })
        | _ => none
  | _ => none

/-- A number is made a literal: a closed one by itself, a symbolic one by a hint. -/
def Hp.literal (h : Hp) (v : AV) : Option (Nat × Hp) := match v with
  | .int _ n => match n with
    | .ofNat m => some (m, h)
    | .negSucc _ => none
  | .sym _ n => match h.hints with
    | .k k :: r => match k with
      | k + 1 => match n with
        | .ofNat m => some (m, { h with hints := .k k :: r })
        | .negSucc _ => none
      | 0 => match r with
        | .n c :: r => some (c, { h with hints := r, ob := (n = Int.ofNat c) :: h.ob })
        | _ => match h.auto with
          | true => match n with
            | .ofNat m => some (m, h)
            | .negSucc _ => none
          | false => none
    | l => match h.auto with
      | true => match n with
        | .ofNat m => some (m, h)
        | .negSucc _ => none
      | false => match l with
        | .n c :: r => some (c, { h with hints := r, ob := (n = Int.ofNat c) :: h.ob })
        | _ => none
  | _ => none

/-- A number from 0 on, closed or not, below a bound. -/
def Hp.index (h : Hp) (v : AV) (below : Nat) : Option (Nat × Hp) := match asI v with
  | some (_, _, n) => match h.need (Nat.blt n.toNat below && decide (0 ≤ n)) with
    | some h => some (n.toNat, h)
    | none => none
  | none => none

/-- A new block. -/
def Hp.new (h : Hp) (o : AO) : Option (Nat × Hp) := match Nat.blt h.nxt h.hi with
  | true => some (h.nxt, { h with heap := (h.nxt, o) :: h.heap, nxt := h.nxt + 1 })
  | false => none

def Hp.put (h : Hp) (b : Nat) (o : AO) : Hp := { h with heap := set h.heap b o, wr := add b h.wr }

/-! ### memory -/
/-- A cell of a symbolic array as a value. -/
def ofCell (k : CK) (x : AV) (h : Hp) : Option (AV × Hp) := match k with
  | .int k => some (.sym k (avInt x), h)
  | .bool => some (.symb (avBool x), h)
  | .val => match h.hints with
    | .a v :: r => match v.oneCell with
      | true => some (v, { h with hints := r, ob := (x = v) :: h.ob })
      | false => none
    | _ => match h.auto, x.oneCell with
      | true, true => some (x, h)
      | _, _ => none

def rowCells (sh : List CK) (f : Nat → AV) (h : Hp) : (n j : Nat) → Option (List AV × Hp)
  | 0, _ => some ([], h)
  | n + 1, j => match nth sh j with
    | none => none
    | some k => match ofCell k (f j) h with
      | none => none
      | some (v, h) => match rowCells sh f h n (j + 1) with
        | none => none
        | some (l, h) => some (v :: l, h)

/-- n cells from element i, cell j on, of block b. -/
def loadN (h : Hp) (b i j n : Nat) : Option (List AV × Hp) := match get h.heap b with
  | some (.cells wd l) => match takeN n (dropN (i * wd + j) l) with
    | some t => match allOne t with
      | true => some (t, h)
      | false => none
    | none => none
  | some (.arr wd sh _ len f) => match Nat.ble (j + n) wd with
    | true => match h.need (Nat.blt i len) with
      | some h => rowCells sh (f i) h n j
      | none => none
    | false => none
  | _ => none

def loadA (P : Program) (t : TypeId) (v : AV) (h : Hp) : Option (AV × Hp) := match v, isAggT P t, sizeT P t with
  | .ptr b i j, some true, some n => match loadN h b i j n with
    | some (l, h) => some (.agg l, h)
    | none => none
  | .ptr b i j, some false, some _ => match loadN h b i j 1 with
    | some ([x], h) => some (x, h)
    | _ => none
  | _, _, _ => none

def fits (k : CK) (v : AV) : Bool := match k, v with
  | .int k, .int k' _ | .int k, .sym k' _ => decide (k = k')
  | .bool, .bool _ | .bool, .symb _ => true
  | .val, v => v.oneCell
  | _, _ => false

def fitsAll (sh : List CK) : (j : Nat) → List AV → Bool
  | _, [] => true
  | j, v :: r => match nth sh j with
    | some k => match fits k v with
      | true => fitsAll sh (j + 1) r
      | false => false
    | none => false

/-- A function at one row, from a cell on, written. -/
def upd (f : Nat → Nat → AV) (i j : Nat) (l : List AV) : Nat → Nat → AV :=
  fun i' j' => if i' = i then (if j ≤ j' then (match nth l (j' - j) with | some v => v | none => f i' j') else f i' j') else f i' j'

def storeN (h : Hp) (b i j : Nat) (l : List AV) : Option Hp := match allOne l with
  | false => none
  | true => match get h.heap b with
    | some (.cells wd c) => match Nat.ble (i * wd + j + l.length) c.length with
      | true => some (h.put b (.cells wd (splice c (i * wd + j) l)))
      | false => none
    | some (.arr wd sh ro len f) => match ro, fitsAll sh j l, Nat.ble (j + l.length) wd with
      | false, true, true => match h.need (Nat.blt i len) with
        | some h => some (h.put b (.arr wd sh ro len (upd f i j l)))
        | none => none
      | _, _, _ => none
    | _ => none

def storeA (P : Program) (t : TypeId) (a v : AV) (h : Hp) : Option Hp := match a, sizeT P t with
  | .ptr b i j, some n => match Nat.beq v.cells.length n with
    | true => storeN h b i j v.cells
    | false => none
  | _, _ => none

/-- A new variable. -/
def newA (v : AV) (h : Hp) : Option (AV × Hp) := match allOne v.cells with
  | true => match h.new (.cells v.cells.length v.cells) with
    | some (n, h) => some (.ptr n 0 0, h)
    | none => none
  | false => none

/-! ### building -/
/-- The kinds of an array's cells, as a type's zero value shows them. -/
def kindOf : AV → CK
  | .int k _ | .sym k _ => .int k
  | .bool _ | .symb _ => .bool
  | _ => .val

def fillA (place : Nat → Option (Nat × Nat)) (cells : List AV) : List (Nat × AV) → Option (List AV)
  | [] => some cells
  | (i, v) :: r => match place i with
    | none => none
    | some (off, size) => match Nat.beq v.cells.length size, Nat.ble (off + v.cells.length) cells.length with
      | true, true => fillA place (splice cells off v.cells) r
      | _, _ => none

def fieldsAt (P : Program) : List Field → Option (List (Nat × Nat))
  | [] => some []
  | f :: r => match sizeT P f.type, fieldsAt P r with
    | some n, some l => some ((f.offset, n) :: l)
    | _, _ => none

def repeatL {α : Type} (l : List α) : Nat → List α
  | 0 => []
  | n + 1 => l ++ repeatL l n

def buildA (P : Program) (t : TypeId) (parts : List (Nat × AV)) : Option AV := match zeroT P t, P.underlying t with
  | some z, some (.struct fields) => match fieldsAt P fields.toList with
    | some ps => match fillA (nth ps) z.cells parts with
      | some l => match allKnown l with
        | true => some (.agg l)
        | false => none
      | none => none
    | none => none
  | some z, some (.array _ e) => match sizeT P e with
    | some n => match fillA (fun i => some (i * n, n)) z.cells parts with
      | some l => match allKnown l with
        | true => some (.agg l)
        | false => none
      | none => none
    | none => none
  | _, _ => none

def buildSliceA (P : Program) (t : TypeId) (len : Nat) (parts : List (Nat × AV)) (h : Hp) : Option (AV × Hp) := match P.underlying t with
  | some (.slice e) => match sizeT P e, zeroT P e with
    | some n, some z => match Nat.beq z.cells.length n, Nat.ble (len * n) 16777216, Nat.ble 1 (len * n) with
      | true, true, true => match fillA (fun i => some (i * n, n)) (repeatL z.cells len) parts with
        | some l => match allOne l with
          | true => match h.new (.cells n l) with
            | some (b, h) => some (.xs n b 0 len (some len), h)
            | none => none
          | false => none
        | none => none
      | true, true, false => match Nat.beq len 0, parts with
        | true, [] => match h.new (.arr n (z.cells.map kindOf) false 0 (fun _ _ => .top)) with
          | some (b, h) => some (.xs n b 0 0 (some 0), h)
          | none => none
        | _, _ => none
      | _, _, _ => none
    | _, _ => none
  | _ => none

/-- A part of an aggregate. -/
def partA (P : Program) (t : TypeId) (l : List AV) (off : Nat) : Option AV := match isAggT P t, sizeT P t with
  | some true, some n => match takeN n (dropN off l) with
    | some p => some (.agg p)
    | none => none
  | some false, some _ => nth l off
  | _, _ => none

def fieldA (P : Program) (t : TypeId) (v : AV) (f : Nat) : Option AV := match v, P.underlying t with
  | .agg l, some (.struct fields) => match nth fields.toList f with
    | some x => partA P x.type l x.offset
    | none => none
  | _, _ => none

def fieldAddrA (P : Program) (t : TypeId) (v : AV) (f : Nat) : Option AV := match v, P.underlying t with
  | .ptr b i j, some (.struct fields) => match nth fields.toList f with
    | some x => match sizeT P x.type with
      | some (_ + 1) => some (.ptr b i (j + x.offset))
      | _ => none
    | none => none
  | _, _ => none

def indexAddrA (P : Program) (t : TypeId) (v ix : AV) (h : Hp) : Option (AV × Hp) := match v, P.underlying t with
  | .xs wd b off len _, some (.slice e) => match h.literal ix, sizeT P e with
    | some (i, h), some n => match Nat.blt i len, Nat.beq n wd with
      | true, true => some (.ptr b (off + i) 0, h)
      | _, _ => none
    | _, _ => none
  | .ss wd b off len _, some (.slice e) => match h.index ix len, sizeT P e with
    | some (i, h), some n => match Nat.beq n wd with
      | true => some (.ptr b (off + i) 0, h)
      | false => none
    | _, _ => none
  | .ptr b i j, some (.array len e) => match h.literal ix, sizeT P e with
    | some (n, h), some s => match Nat.blt n len with
      | true => some (.ptr b i (j + n * s), h)
      | false => none
    | _, _ => none
  | _, _ => none

def indexA (P : Program) (t : TypeId) (v ix : AV) (h : Hp) : Option (AV × Hp) := match v, P.underlying t with
  | .agg l, some (.array len e) => match h.literal ix, sizeT P e with
    | some (i, h), some s => match Nat.blt i len, partA P e l (i * s) with
      | true, some x => some (x, h)
      | _, _ => none
    | _, _ => none
  | _, _ => none

/-! ### operators -/
def arith (op : BinOp) (k : IntKind) (x y : Int) : Option Int := match op with
  | .add => some (k.wrap (x + y))
  | .sub => some (k.wrap (x - y))
  | .mul => some (k.wrap (x * y))
  | .and => some (k.wrap (BitVec.ofInt k.bits x &&& BitVec.ofInt k.bits y).toNat)
  | .or => some (k.wrap (BitVec.ofInt k.bits x ||| BitVec.ofInt k.bits y).toNat)
  | .xor => some (k.wrap (BitVec.ofInt k.bits x ^^^ BitVec.ofInt k.bits y).toNat)
  | .andNot => some (k.wrap (BitVec.ofInt k.bits x &&& ~~~BitVec.ofInt k.bits y).toNat)
  | _ => none

def divide (op : BinOp) (k : IntKind) (x y : Int) : Option Int := match op with
  | .quo => some (k.wrap (x.tdiv y))
  | .rem => some (x.tmod y)
  | _ => none

def shiftA (op : BinOp) (k : IntKind) (x y : Int) : Option Int := match op with
  | .shl => some (k.wrap (x * 2 ^ (min y.toNat k.bits)))
  | .shr => some (x.fdiv (2 ^ (min y.toNat k.bits)))
  | _ => none

def cmpA (op : BinOp) (x y : Int) : Option Bool := match op with
  | .eql => some (x == y)
  | .neq => some (x != y)
  | .lss => some (decide (x < y))
  | .leq => some (decide (x ≤ y))
  | .gtr => some (decide (x > y))
  | .geq => some (decide (x ≥ y))
  | _ => none

/-- Do two values of a type equal each other? Closed or not, and the answer. Integers, truth values, structs and arrays of such. -/
def eqFields (P : Program) (eqv : TypeId → AV → AV → Option (Bool × Bool)) (x y : List AV) : List Field → Option (Bool × Bool)
  | [] => some (true, true)
  | f :: r => match decide (f.name ≠ "_"), partA P f.type x f.offset, partA P f.type y f.offset with
    | true, some a, some b => match eqv f.type a b, eqFields P eqv x y r with
      | some (c, p), some (d, q) => some (and2 c d, and2 p q)
      | _, _ => none
    | _, _, _ => none

def eqItemsA (P : Program) (eqv : TypeId → AV → AV → Option (Bool × Bool)) (e : TypeId) (sz : Nat) (x y : List AV) : List Nat → Option (Bool × Bool)
  | [] => some (true, true)
  | i :: r => match partA P e x (i * sz), partA P e y (i * sz) with
    | some a, some b => match eqv e a b, eqItemsA P eqv e sz x y r with
      | some (c, p), some (d, q) => some (and2 c d, and2 p q)
      | _, _ => none
    | _, _ => none

def eqA (P : Program) : Nat → TypeId → AV → AV → Option (Bool × Bool)
  | 0, _, _, _ => none
  | d + 1, t, x, y => match P.underlying t with
    | some .bool => match asB x, asB y with
      | some (c, a), some (e, b) => some (and2 c e, a == b)
      | _, _ => none
    | some (.int _) => match asI x, asI y with
      | some (k, c, a), some (k', e, b) => match decide (k = k') with
        | true => some (and2 c e, a == b)
        | false => none
      | _, _ => none
    | some (.struct fields) => match x, y with
      | .agg l, .agg m => match P.stoodInHeld t with
        | true => none
        | false => eqFields P (eqA P d) l m fields.toList
      | _, _ => none
    | some (.array n e) => match x, y, sizeT P e with
      | .agg l, .agg m, some sz => eqItemsA P (eqA P d) e sz l m (List.range n)
      | _, _, _ => none
    | some (.pointer _) => match x, y with
      | .nilp, .nilp => some (true, true)
      | .nilp, .ptr .. | .ptr .., .nilp => some (true, false)
      | _, _ => none
    | some (.slice _) => match x, y with
      | .nils, .nils => some (true, true)
      | .nils, .xs .. | .xs .., .nils => some (true, false)
      | _, _ => none
    | some (.map _ _) => match x, y with
      | .nilm, .nilm => some (true, true)
      | .nilm, .map _ | .map _, .nilm => some (true, false)
      | _, _ => none
    | some (.func _ _ _) => match x, y with
      | .nilf, .nilf => some (true, true)
      | .nilf, .func .. | .func .., .nilf => some (true, false)
      | _, _ => none
    | some (.interface _) => match x, y with
      | .nili, .iface .. | .iface .., .nili => some (true, false)
      | _, _ => none
    | _ => none

/-- Two pointers, neither of them nil, at closed places of blocks that are there. -/
def eqPtr (P : Program) (t : TypeId) (x y : AV) (h : Hp) : Option Bool := match P.underlying t, x, y with
  | some (.pointer e), .ptr b i j, .ptr b' i' j' => match sizeT P e, get h.heap b, get h.heap b' with
    | some (_ + 1), some (.cells wd l), some (.cells wd' l') => match Nat.beq b b' with
      | true => match Nat.beq (i * wd + j) (i' * wd' + j') with
        | true => some true
        | false => some false
      | false => match Nat.blt (i * wd + j) l.length, Nat.blt (i' * wd' + j') l'.length with
        | true, true => some false
        | _, _ => none
    | _, _, _ => none
  | _, _, _ => none

def guardOk (P : Program) (t : TypeId) (x y : AV) : Bool := match x, y with
  | .agg _, .agg _ => match P.eqGuardType P.depth t with
    | true => false
    | false => true
  | .raw _, _ | _, .raw _ | .top, _ | _, .top | .stamp _, _ | _, .stamp _ => false
  | _, _ => true

def isEq : BinOp → Option Bool
  | .eql => some true
  | .neq => some false
  | _ => none

def binA (P : Program) (op : BinOp) (t : TypeId) (x y : AV) (h : Hp) : Option (AV × Hp) := match asI x, asI y with
  | some (k, c, a), some (k', d, b) => match shiftA op k a b with
    | some r => match h.check d (decide (0 ≤ b)) with
      | some h => some (mkI k (and2 c d) r, h)
      | none => none
    | none => match decide (k = k') with
      | false => none
      | true => match arith op k a b with
        | some r => some (mkI k (and2 c d) r, h)
        | none => match divide op k a b with
          | some r => match h.check d (decide (b ≠ 0)) with
            | some h => some (mkI k (and2 c d) r, h)
            | none => none
          | none => match cmpA op a b with
            | some r => some (mkB (and2 c d) r, h)
            | none => none
  | _, _ => match isEq op, guardOk P t x y with
    | some s, true => match eqA P 10000 t x y with
      | some (c, b) => some (mkB c (b == s), h)
      | none => match eqPtr P t x y h with
        | some b => some (.bool (b == s), h)
        | none => none
    | _, _ => none

/-- .. where a slice that is not empty is asked whether it is nil. -/
def binE0 (P : Program) (op : BinOp) (t : TypeId) (x y : AV) (h : Hp) : Option (AV × Hp) := match x, y with
  | .ss wd b off len c, .nils => match h.need (Nat.blt 0 len) with
    | some h => binA P op t (.xs wd b off len c) .nils h
    | none => none
  | x, y => binA P op t x y h

/-- A remainder is made a literal, where a hint says so. -/
def litR (op : BinOp) (r : Option (AV × Hp)) : Option (AV × Hp) := match op, r with
  | .rem, some (.sym k n, h) => match h.hints with
    | .l c :: rest => some (.int k c, { h with hints := rest, ob := (n = c) :: h.ob })
    | .k m :: rest => match rest with
      | .l c :: rest => some (.int k c, { h with hints := .k m :: rest, ob := (n = c) :: h.ob })
      | _ => some (.sym k n, h)
    | _ => some (.sym k n, h)
  | _, r => r

def binE (P : Program) (op : BinOp) (t : TypeId) (x y : AV) (h : Hp) : Option (AV × Hp) := litR op (binE0 P op t x y h)

def unA (op : UnOp) (x : AV) : Option AV := match op with
  | .not => match asB x with
    | some (c, b) => some (mkB c (!b))
    | none => none
  | .neg => match asI x with
    | some (k, c, n) => some (mkI k c (k.wrap (0 - n)))
    | none => none
  | .xor => match asI x with
    | some (k, c, n) => some (mkI k c (k.wrap (BitVec.ofInt k.bits (if k.signed then -1 else k.max) ^^^ BitVec.ofInt k.bits n).toNat))
    | none => none
  | _ => none

def convA (P : Program) (dst : TypeId) (x : AV) : Option AV := match P.underlying dst, asI x with
  | some (.int k), some (_, c, n) => some (mkI k c (k.wrap n))
  | _, _ => none

/-! ### slices -/
/-- A bound of a slice: of an explicit one a literal. -/
def bound (ex : Bool) (v : AV) (below : Nat) (h : Hp) : Option (Nat × Hp) := match ex with
  | true => match h.literal v with
    | some (m, h) => match Nat.ble m below with
      | true => some (m, h)
      | false => none
    | none => none
  | false => match asI v with
    | some (_, _, n) => match h.need (Nat.ble n.toNat below && decide (0 ≤ n)) with
      | some h => some (n.toNat, h)
      | none => none
    | none => none

def capOr (c : Option Nat) (len : Nat) : Nat := match c with
  | some c => c
  | none => len

/-- The greatest, the high and the low bound. -/
def boundMax (ex : Bool) (len : Nat) (c : Option Nat) (mx : Option AV) (h : Hp) : Option (Option Nat × Hp) := match mx with
  | none => some (c, h)
  | some y => match bound ex y (capOr c len) h with
    | some (n, h) => some (some n, h)
    | none => none

def boundHigh (ex : Bool) (len : Nat) (c : Option Nat) (hi mx : Option AV) (h : Hp) : Option (Nat × Hp) := match hi with
  | some x => bound ex x (capOr c len) h
  | none => match mx with
    | none => some (len, h)
    | some _ => none

def boundLow (ex : Bool) (m : Nat) (lo : Option AV) (h : Hp) : Option (Nat × Hp) := match lo with
  | some x => bound ex x m h
  | none => some (0, h)

def lessC (c : Option Nat) (l : Nat) : Option Nat := match c with
  | some c => some (c - l)
  | none => none

/-- Low and high bound, the capacity that is left. -/
def sliceBoundsA (ex : Bool) (len : Nat) (c : Option Nat) (lo hi mx : Option AV) (h : Hp) : Option (Nat × Nat × Option Nat × Hp) := match boundMax ex len c mx h with
  | none => none
  | some (c', h) => match boundHigh ex len c' hi mx h with
    | none => none
    | some (m, h) => match boundLow ex m lo h with
      | none => none
      | some (l, h) => match h.check ex (Nat.blt l (capOr c' len) || Nat.beq l 0) with
        | some h => some (l, m, c', h)
        | none => none

def sliceA (P : Program) (t : TypeId) (v : AV) (lo hi mx : Option AV) (h : Hp) : Option (AV × Hp) := match P.underlying t with
  | some (.slice e) => match v with
    | .nils => match sliceBoundsA true 0 (some 0) lo hi mx h, sizeT P e with
      | some (_, _, _, h), some _ => some (.nils, h)
      | _, _ => none
    | .xs wd b off len c => match sliceBoundsA true len c lo hi mx h, sizeT P e with
      | some (l, m, c, h), some n => match Nat.beq n wd with
        | true => some (.xs wd b (off + l) (m - l) (lessC c l), h)
        | false => none
      | _, _ => none
    | .ss wd b off len c => match sliceBoundsA false len c lo hi mx h, sizeT P e with
      | some (l, m, c, h), some n => match Nat.beq n wd with
        | true => some (.ss wd b (off + l) (m - l) (lessC c l), h)
        | false => none
      | _, _ => none
    | _ => none
  | _ => none

/-- The end of a slice, nothing: a new name, of no block that is known. -/
def sliceTail (P : Program) (t : TypeId) (v lo : AV) (h : Hp) : Option (AV × Hp) := match P.underlying t, asI lo with
  | some (.slice e), some (_, _, n) => match v with
    | .ss wd _ _ len _ => match sizeT P e with
      | some s => match Nat.beq s wd with
        | true => match h.need (Nat.beq n.toNat len && decide (0 ≤ n)) with
          | some h => match Nat.blt h.nxt h.hi with
            | true => some (.ss wd h.nxt 0 0 none, { h with nxt := h.nxt + 1 })
            | false => none
          | none => none
        | false => none
      | none => none
    | _ => none
  | _, _ => none

/-- A slice of a slice; by the hint '.a .nils' its end. -/
def sliceE (P : Program) (t : TypeId) (v : AV) (lo hi mx : Option AV) (h : Hp) : Option (AV × Hp) := match lo, hi, mx with
  | some l, none, none => match h.hints with
    | .a x :: r => match x with
      | .nils => sliceTail P t v l { h with hints := r }
      | _ => sliceA P t v (some l) none none h
    | _ => sliceA P t v (some l) none none h
  | lo, hi, mx => sliceA P t v lo hi mx h

/-! ### maps -/
def keyInt : CK → AV → Option (Bool × Int)
  | .int k, .int k' n => match decide (k = k') with
    | true => some (true, n)
    | false => none
  | .int k, .sym k' n => match decide (k = k') with
    | true => some (false, n)
    | false => none
  | .bool, .bool b => some (true, if b then 1 else 0)
  | .bool, .symb b => some (false, if b then 1 else 0)
  | _, _ => none

def keyInts : List CK → List AV → Option (List Int)
  | [], [] => some []
  | k :: ks, v :: vs => match keyInt k v, keyInts ks vs with
    | some (_, n), some l => some (n :: l)
    | _, _ => none
  | _, _ => none

/-- A key's kinds: of an integer, or of a struct of integers and truth values, none of whose fields is blank. -/
def keyKinds (P : Program) : List Field → (off : Nat) → Option (List CK)
  | [], _ => some []
  | f :: r, off => match decide (f.name ≠ "_"), Nat.beq f.offset off, P.underlying f.type, sizeT P f.type with
    | true, true, some (.int k), some 1 => match keyKinds P r (off + 1) with
      | some l => some (.int k :: l)
      | none => none
    | true, true, some .bool, some 1 => match keyKinds P r (off + 1) with
      | some l => some (.bool :: l)
      | none => none
    | _, _, _, _ => none

def mapKinds (P : Program) (t : TypeId) : Option (List CK × Bool × IntKind) := match P.underlying t with
  | some (.map k e) => match P.underlying e with
    | some (.int vk) => match P.underlying k with
      | some (.int kk) => some ([.int kk], false, vk)
      | some (.struct fs) => match P.stoodInHeld k, keyKinds P fs.toList 0 with
        | false, some l => some (l, true, vk)
        | _, _ => none
      | _ => none
    | _ => none
  | _ => none

def keyOf (ks : List CK) (agg : Bool) (v : AV) : Option (List Int) := match agg, v with
  | true, .agg l => keyInts ks l
  | false, .agg _ => none
  | false, v => keyInts ks [v]
  | true, _ => none

/-- The zero value of a map's elements, as it must be. -/
def zeroOk (P : Program) (t : TypeId) (vk : IntKind) : Option Bool := match P.underlying t with
  | some (.map _ e) => match zeroT P e with
    | some (.int vk' n) => match decide (vk = vk'), decide (n = 0) with
      | true, true => some true
      | _, _ => none
    | _ => none
  | _ => none

def lookupA (P : Program) (t : TypeId) (m key : AV) (ok : Bool) (h : Hp) : Option AV := match mapKinds P t with
  | some (ks, agg, vk) => match zeroOk P t vk with
    | none => none
    | some _ => match keyOf ks agg key with
      | none => none
      | some k => match m with
        | .nilm => match ok with
          | true => some (.tup [.int vk 0, .bool false])
          | false => some (.int vk 0)
        | .map b => match get h.heap b with
          | some (.map t' f) => match Nat.beq t t' with
            | false => none
            | true => match ok with
              | true => some (.tup [.sym vk (match f k with | some n => n | none => 0), .symb (f k).isSome])
              | false => some (.sym vk (match f k with | some n => n | none => 0))
          | _ => none
        | _ => none
  | none => none

def setKey (f : List Int → Option Int) (k : List Int) (v : Option Int) : List Int → Option Int := fun k' => if k' = k then v else f k'

def updateA (P : Program) (t : TypeId) (m key v : AV) (h : Hp) : Option Hp := match mapKinds P t, m, asI v with
  | some (ks, agg, vk), .map b, some (vk', _, n) => match keyOf ks agg key, get h.heap b, decide (vk = vk') with
    | some k, some (.map t' f), true => match Nat.beq t t' with
      | true => some (h.put b (.map t' (setKey f k (some n))))
      | false => none
    | _, _, _ => none
  | _, _, _ => none

def deleteA (P : Program) (t : TypeId) (m key : AV) (h : Hp) : Option Hp := match mapKinds P t with
  | some (ks, agg, _) => match keyOf ks agg key, m with
    | some _, .nilm => some h
    | some k, .map b => match get h.heap b with
      | some (.map t' f) => match Nat.beq t t' with
        | true => some (h.put b (.map t' (setKey f k none)))
        | false => none
      | _ => none
    | _, _ => none
  | none => none

def mval (f : List Int → Option Int) (k : List Int) : Int := match f k with
  | some n => n
  | none => 0
def entryA (P : Program) (t : TypeId) (m key : AV) (h : Hp) : Option (AV × Hp) := match mapKinds P t, m with
  | some (ks, agg, vk), .map b => match zeroOk P t vk, keyOf ks agg key, get h.heap b, Nat.blt h.nxt h.hi with
    | some _, some k, some (.map t' f), true => match Nat.beq t t' with
      | true => some (.tup [.sym vk (mval f k), .stamp h.nxt], { (h.put b (.mapP t (setKey f k (some (mval f k))) h.nxt k)) with nxt := h.nxt + 1 })
      | false => none
    | _, _, _, _ => none
  | _, _ => none
def entryStoreA (P : Program) (t : TypeId) (m s v : AV) (h : Hp) : Option Hp := match mapKinds P t, m, s, asI v with
  | some (_, _, vk), .map b, .stamp n, some (vk', _, x) => match get h.heap b, decide (vk = vk') with
    | some (.mapP t' f n' k), true => match Nat.beq t t', Nat.beq n n' with
      | true, true => some (h.put b (.map t (setKey f k (some x))))
      | _, _ => none
    | _, _ => none
  | _, _, _, _ => none


def makeMapA (P : Program) (t : TypeId) (h : Hp) : Option (AV × Hp) := match mapKinds P t with
  | some _ => match h.new (.map t (fun _ => none)) with
    | some (b, h) => some (.map b, h)
    | none => none
  | none => none

/-! ### make, append -/
def bytesT (P : Program) (t : TypeId) : Option Nat := (P.info? t).map (·.bytes)

def makeSliceA (P : Program) (t : TypeId) (len cap : AV) (h : Hp) : Option (AV × Hp) := match P.underlying t with
  | some (.slice e) => match sizeT P e, zeroT P e, bytesT P e, asI len, asI cap with
    | some n, some z, some by_, some (_, c, l), some (_, d, m) => match Nat.beq z.cells.length n, Nat.ble 1 n, allOne z.cells with
      | true, true, true => match and2 c d with
        | true => match l, m with
          | .ofNat l, .ofNat (m + 1) => match Nat.ble l (m + 1), Nat.ble (by_ * (m + 1)) 140737488355328, Nat.ble (m + 1) 9223372036854775807 with
            | true, true, true => match h.new (.cells n (repeatL z.cells (m + 1))) with
              | some (b, h) => some (.xs n b 0 l (some (m + 1)), h)
              | none => none
            | _, _, _ => none
          | .ofNat 0, .ofNat 0 => match h.new (.arr n (z.cells.map kindOf) false 0 (fun _ _ => .top)) with
            | some (b, h) => some (.xs n b 0 0 (some 0), h)
            | none => none
          | _, _ => none
        | false => match h.need (decide (0 ≤ l) && decide (l ≤ m) && decide (by_ * m ≤ 140737488355328) && decide (m ≤ 9223372036854775807)) with
          | some h => match h.new (.arr n (z.cells.map kindOf) false m.toNat (fun _ j => match nth z.cells j with | some v => v | none => .top)) with
            | some (b, h) => some (.ss n b 0 l.toNat (some m.toNat), h)
            | none => none
          | none => none
      | _, _, _ => none
    | _, _, _, _, _ => none
  | _ => none

/-- 'make'; by the hint '.a .nilf' of a number that is 0. -/
def makeSliceE (P : Program) (t : TypeId) (len cap : AV) (h : Hp) : Option (AV × Hp) := match h.hints with
  | .a v :: r => match v with
    | .nilf => match len, cap with
      | .sym k n, .sym k2 n2 => makeSliceA P t (.int k 0) (.int k2 0) { h with hints := r, ob := (n = 0) :: (n2 = 0) :: h.ob }
      | _, _ => none
    | _ => makeSliceA P t len cap h
  | _ => makeSliceA P t len cap h

/-- Is it a slice of nothing, without room? -/
def isEmptyS : Nat → Option Nat → Bool
  | 0, some 0 => true
  | _, _ => false

/-- Explicit cells of a slice of elements of wd cells: how many elements, their cells. -/
def explicit (h : Hp) (wd : Nat) (v : AV) : Option (Nat × List AV) := match v with
  | .nils => some (0, [])
  | .xs wd' b off len c => match isEmptyS len c with
    | true => some (0, [])
    | false => match get h.heap b with
      | some (.cells wd'' l) => match Nat.beq wd wd', Nat.beq wd wd'', takeN (len * wd) (dropN (off * wd) l) with
        | true, true, some t => match allOne t with
          | true => some (len, t)
          | false => none
        | _, _, _ => none
      | _ => none
  | _ => none

/-- What a slice holds: how many elements, the cells of each, the cells' kinds. -/
def elems (h : Hp) (wd : Nat) (v : AV) : Option (Nat × (Nat → Nat → AV) × List CK) := match v with
  | .ss wd' b off len _ => match get h.heap b with
    | some (.arr wd'' sh _ _ f) => match Nat.beq wd wd', Nat.beq wd wd'' with
      | true, true => some (len, fun i j => f (off + i) j, sh)
      | _, _ => none
    | _ => none
  | _ => none

/-- What an appended slice must be within: an obligation. -/
def within (h : Hp) (v : AV) : Option Hp := match v with
  | .ss _ b off len _ => match get h.heap b with
    | some (.arr _ _ _ len' _) => h.need (Nat.ble (off + len) len')
    | _ => none
  | _ => none

def ckBeq : CK → CK → Bool
  | .int k, .int k' => decide (k = k')
  | .bool, .bool => true
  | .val, .val => true
  | _, _ => false

def shBeq : List CK → List CK → Bool
  | [], [] => true
  | k :: r, k' :: r' => match ckBeq k k' with
    | true => shBeq r r'
    | false => false
  | _, _ => false

/-- Do explicit cells fit an array's kinds, row by row? -/
def fitsRows (sh : List CK) (l : List AV) : Nat → Bool
  | 0 => true
  | n + 1 => match takeN sh.length (dropN (n * sh.length) l) with
    | some t => match fitsAll sh 0 t with
      | true => fitsRows sh l n
      | false => false
    | none => false

/-- 'append' to what has no room. -/
def growOld (w : Nat) (sh : List CK) (by_ n : Nat) (g : Nat → Nat → AV) (s : AV) (h : Hp) : Option (AV × Hp) := match h.need (Nat.ble (n * by_) 70368744177664) with
  | some h => match h.dec (.symb (Nat.beq n 0)) with
    | some (true, h) => some (s, h)
    | some (false, h) => match h.new (.arr w sh false n g) with
      | some (b, h) => some (.ss w b 0 n none, h)
      | none => none
    | none => none
  | none => none

/-- .. to a nil slice, of any number of elements: by the hint '.a .nils'. -/
def growNil (w : Nat) (sh : List CK) (by_ n : Nat) (g : Nat → Nat → AV) (h : Hp) : Option (AV × Hp) := match h.need (Nat.ble (n * by_) 70368744177664) with
  | some h => match h.new (.arr w sh false n g) with
    | some (b, h) => some (.ss w b 0 n none, h)
    | none => none
  | none => none

def growFresh (w : Nat) (sh : List CK) (by_ n : Nat) (g : Nat → Nat → AV) (s : AV) (h : Hp) : Option (AV × Hp) := match s with
  | .nils => match h.hints with
    | .a v :: r => match v with
      | .nils => growNil w sh by_ n g { h with hints := r }
      | _ => growOld w sh by_ n g s h
    | _ => growOld w sh by_ n g s h
  | s => growOld w sh by_ n g s h

def eatB (h : Hp) (b : Nat) : Hp := { h with heap := del h.heap b, wr := add b h.wr }

/-- Has a slice no room at all? -/
def noRoom : AV → Bool
  | .nils | .xs _ _ _ _ (some 0) | .ss _ _ _ _ (some 0) => true
  | _ => false

def blockOf : AV → Option Nat
  | .xs _ b _ _ _ | .ss _ b _ _ _ => some b
  | _ => none

/-- 'append' of explicit cells to explicit ones. What is appended to is used up, unless it has no room. -/
def appendXX (w by_ : Nat) (s : AV) (m : Nat) (l : List AV) (n : Nat) (r : List AV) (h : Hp) : Option (AV × Hp) := match n with
  | 0 => some (s, h)
  | n + 1 => match Nat.ble ((m + (n + 1)) * by_) 70368744177664 with
    | false => none
    | true => match noRoom s with
      | true => match h.new (.cells w (l ++ r)) with
        | some (b, h) => some (.xs w b 0 (m + (n + 1)) none, h)
        | none => none
      | false => match blockOf s with
        | some b => match (eatB h b).new (.cells w (l ++ r)) with
          | some (b', h) => some (.xs w b' 0 (m + (n + 1)) none, h)
          | none => none
        | none => none

/-- 'append' to a symbolic array. -/
def appendS (w by_ : Nat) (s : AV) (sh : List CK) (m : Nat) (f : Nat → Nat → AV) (n : Nat) (g : Nat → Nat → AV) (h : Hp) : Option (AV × Hp) := match noRoom s with
  | true => growFresh w sh by_ n g s h
  | false => match blockOf s with
    | some b => match get h.heap b with
      | some (.arr w0 _ false _ _) => match Nat.beq w0 w, h.need (Nat.ble ((m + n) * by_) 70368744177664) with
        | true, some h => match (eatB h b).new (.arr w sh false (m + n) (fun i j => if i < m then f i j else g (i - m) j)) with
          | some (b', h) => some (.ss w b' 0 (m + n) none, h)
          | none => none
        | _, _ => none
      | _ => none
    | none => none

def rowsOf (w : Nat) (l : List AV) : Nat → Nat → AV := fun i j => match nth l (i * w + j) with
  | some v => v
  | none => .top

def appendA (P : Program) (t t2 : TypeId) (s x : AV) (h : Hp) : Option (AV × Hp) := match P.underlying t, P.underlying t2 with
  | some (.slice e), some (.slice _) => match sizeT P e, bytesT P e, zeroT P e with
    | some w, some by_, some z => match Nat.beq z.cells.length w, Nat.ble 1 w, Nat.ble 1 by_ with
      | true, true, true => match explicit h w s with
        | some (m, l) => match explicit h w x with
          | some (n, r) => appendXX w by_ s m l n r h
          | none => match elems h w x, within h x, m, noRoom s with
            | some (n, g, sh), some h, 0, true => growFresh w sh by_ n g s h
            | _, _, _, _ => none
        | none => match elems h w s, within h s with
          | some (m, f, sh), some h => match explicit h w x with
            | some (n, r) => match fitsRows sh r n with
              | true => appendS w by_ s sh m f n (rowsOf w r) h
              | false => none
            | none => match elems h w x, within h x with
              | some (n, g, sh2), some h => match shBeq sh sh2 with
                | true => appendS w by_ s sh m f n g h
                | false => none
              | _, _ => none
          | _, _ => none
      | _, _, _ => none
    | _, _, _ => none
  | _, _ => none

def isSl : AV → Bool
  | .nils | .xs .. | .ss .. => true
  | _ => false
/-- 'append' of nothing. -/
def appendNo (P : Program) (t t2 : TypeId) (s x : AV) (h : Hp) : Option (AV × Hp) := match x with
  | .ss _ _ _ len _ => match P.underlying t, P.underlying t2 with
    | some (.slice e), some (.slice _) => match sizeT P e, bytesT P e, zeroT P e with
      | some w, some by_, some z => match Nat.beq z.cells.length w, Nat.ble 1 w, Nat.ble 1 by_, isSl s with
        | true, true, true, true => match h.need (Nat.beq len 0) with
          | some h => some (s, h)
          | none => none
        | _, _, _, _ => none
      | _, _, _ => none
    | _, _ => none
  | _ => none

/-- 'append'; by the hint '.a .nilm' of nothing. -/
def appendE (P : Program) (t t2 : TypeId) (s x : AV) (h : Hp) : Option (AV × Hp) := match h.hints with
  | .a v :: r => match v with
    | .nilm => appendNo P t t2 s x { h with hints := r }
    | _ => appendA P t t2 s x h
  | _ => appendA P t t2 s x h

def lenA (P : Program) (t : TypeId) (v : AV) : Option AV := match P.underlying t, v with
  | some (.slice _), .nils => some (.int .i64 0)
  | some (.slice _), .xs _ _ _ n _ => some (.int .i64 (Int.ofNat n))
  | some (.slice _), .ss _ _ _ n _ => some (.sym .i64 (Int.ofNat n))
  | some (.array n _), _ => some (.int .i64 (Int.ofNat n))
  | _, _ => none

def capA (P : Program) (t : TypeId) (v : AV) : Option AV := match P.underlying t, v with
  | some (.slice _), .nils => some (.int .i64 0)
  | some (.slice _), .xs _ _ _ _ (some n) => some (.int .i64 (Int.ofNat n))
  | some (.slice _), .ss _ _ _ _ (some n) => some (.sym .i64 (Int.ofNat n))
  | _, _ => none

def min2A (x y : AV) : Option AV := match asI x, asI y with
  | some (k, c, a), some (_, d, b) => some (mkI k (and2 c d) (if b < a then b else a))
  | _, _ => none

def max2A (x y : AV) : Option AV := match asI x, asI y with
  | some (k, c, a), some (_, d, b) => some (mkI k (and2 c d) (if b > a then b else a))
  | _, _ => none

def foldA (f : AV → AV → Option AV) : AV → List AV → Option AV
  | x, [] => some x
  | x, y :: r => match f x y with
    | some z => foldA f z r
    | none => none

def builtinA (P : Program) (b : Builtin) (ts : List TypeId) (args : List AV) (h : Hp) : Option (AV × Hp) := match b, ts, args with
  | .append, [t, t2], [s, x] => appendE P t t2 s x h
  | .len, [t], [x] => match lenA P t x with
    | some v => some (v, h)
    | none => none
  | .cap, [t], [x] => match capA P t x with
    | some v => some (v, h)
    | none => none
  | .min, _, x :: r => match foldA min2A x r with
    | some v => some (v, h)
    | none => none
  | .max, _, x :: r => match foldA max2A x r with
    | some v => some (v, h)
    | none => none
  | .delete, t :: _, [m, k] => match deleteA P t m k h with
    | some h => some (.tup [], h)
    | none => none
  | _, _, _ => none

/-! ### calls -/
def findM (name : String) : List Method → Option Method
  | [] => none
  | m :: r => match m.name == name with
    | true => some m
    | false => findM name r

/-- The function that a method of a dynamic type is: its receiver is the value itself. -/
def methodA (P : Program) (t : TypeId) (name : String) : Option FuncId := match P.info? t with
  | some i => match findM name i.methods.toList with
    | some m => match m.path.toList, m.func, P.underlying t with
      | [], some (f, true), some (.pointer _) => some f
      | [], some (_, false), some (.pointer _) => none
      | [], some (f, false), some _ => some f
      | _, _, _ => none
    | none => none
  | none => none

/-- Which function is called, with which arguments. -/
def targetA (P : Program) (fn : Fn) (args captured : List AV) : Option (FuncId × List AV) := match fn with
  | .func f => some (f, args ++ captured)
  | .method name => match args with
    | .iface t v :: r => match methodA P t name with
      | some f => some (f, v :: r)
      | none => none
    | _ => none
  | .methodOf t name => match P.underlying t with
    | some (.interface _) => match args with
      | .iface t v :: r => match methodA P t name with
        | some f => some (f, v :: r)
        | none => none
      | _ => none
    | some _ => match args with
      | v :: r => match methodA P t name with
        | some f => some (f, v :: r)
        | none => none
      | _ => none
    | none => none
  | _ => none

/-- The name of a package-level variable's block: beyond all names that are given out. -/
def gnm (g : Nat) : Nat := 13407807929942597099574024998205846127479365820592393377723561443721764030073546976801874298166903427690031858186486050853753882811946569946433649006084096 + g

def evA (tmps : List AV) : Operand → Option AV
  | .tmp t => nth tmps t
  | .const v => some (ofVal v)
  | .global g => some (.ptr (gnm g) 0 0)
  | .func f => some (.func (.func f) [] [])

def evAll (tmps : List AV) : List Operand → Option (List AV)
  | [] => some []
  | x :: r => match evA tmps x with
    | none => none
    | some v => match evAll tmps r with
      | none => none
      | some l => some (v :: l)

/-- A value that may be a part of another one. -/
def AV.partOk : AV → Bool
  | .agg l => allOne l
  | v => v.oneCell

def evParts (tmps : List AV) : List (Nat × Operand) → Option (List (Nat × AV))
  | [] => some []
  | (i, x) :: r => match evA tmps x with
    | none => none
    | some v => match v.partOk, evParts tmps r with
      | true, some l => some ((i, v) :: l)
      | _, _ => none

def evOpt (tmps : List AV) : Option Operand → Option (Option AV)
  | none => some none
  | some x => match evA tmps x with
    | none => none
    | some v => some (some v)

def val (h : Hp) : Option AV → Option (AV × Hp)
  | some v => some (v, h)
  | none => none

def skp : Option Hp → Option (AV × Hp)
  | some h => some (.tup [], h)
  | none => none

/-- An operation that calls no Go function. -/
def op1 (P : Program) (tmps : List AV) (op : Op) (h : Hp) : Option (AV × Hp) := match op with
  | .move x | .assign x => val h (evA tmps x)
  | .pick c a b => match evA tmps c, evA tmps a, evA tmps b with
    | some c, some a, some b => match h.dec c with
      | some (true, h) => some (a, h)
      | some (false, h) => some (b, h)
      | none => none
    | _, _, _ => none
  | .alloc e => match zeroT P e with
    | some z => newA z h
    | none => none
  | .box _ x => match evA tmps x with
    | some v => newA v h
    | none => none
  | .build t ps => match evParts tmps ps.toList with
    | some ps => val h (buildA P t ps)
    | none => none
  | .buildSlice t n ps => match evParts tmps ps.toList with
    | some ps => buildSliceA P t n ps h
    | none => none
  | .load t a => match evA tmps a with
    | some a => loadA P t a h
    | none => none
  | .store t a x => match evA tmps a, evA tmps x with
    | some a, some x => skp (storeA P t a x h)
    | _, _ => none
  | .nilCheck x => match evA tmps x with
    | some (.ptr b i j) => some (.ptr b i j, h)
    | _ => none
  | .binOp op t x y _ => match evA tmps x, evA tmps y with
    | some x, some y => binE P op t x y h
    | _, _ => none
  | .unOp op _ x => match evA tmps x with
    | some x => val h (unA op x)
    | none => none
  | .convert src dst x => match evA tmps x, P.underlying src with
    | some x, some _ => val h (convA P dst x)
    | _, _ => none
  | .makeInterface t x => match evA tmps x, P.underlying t with
    | some _, some (.interface _) => none
    | some v, some _ => match v.known with
      | true => some (.iface t v, h)
      | false => none
    | _, _ => none
  | .makeFunc fn first captured => match evAll tmps first.toList, evAll tmps captured.toList with
    | some l, some m => match allKnown l, allKnown m with
      | true, true => some (.func fn l m, h)
      | _, _ => none
    | _, _ => none
  | .makeMap t none => makeMapA P t h
  | .makeSlice t l c => match evA tmps l, evA tmps c with
    | some l, some c => makeSliceE P t l c h
    | _, _ => none
  | .slice t x lo hi mx => match evA tmps x, evOpt tmps lo, evOpt tmps hi, evOpt tmps mx with
    | some v, some lo, some hi, some mx => sliceE P t v lo hi mx h
    | _, _, _, _ => none
  | .fieldAddr t x f => match evA tmps x with
    | some v => val h (fieldAddrA P t v f)
    | none => none
  | .field t x f => match evA tmps x with
    | some v => val h (fieldA P t v f)
    | none => none
  | .indexAddr t x i => match evA tmps x, evA tmps i with
    | some v, some i => indexAddrA P t v i h
    | _, _ => none
  | .index t x i => match evA tmps x, evA tmps i with
    | some v, some i => indexA P t v i h
    | _, _ => none
  | .lookup t m k ok => match evA tmps m, evA tmps k with
    | some m, some k => val h (lookupA P t m k ok h)
    | _, _ => none
  | .mapUpdate t m k x | .insert t m k x => match evA tmps m, evA tmps k, evA tmps x with
    | some m, some k, some x => skp (updateA P t m k x h)
    | _, _, _ => none
  | .mapEntry t m k => match evA tmps m, evA tmps k with
    | some m, some k => entryA P t m k h
    | _, _ => none
  | .entryStore t m s x => match evA tmps m, evA tmps s, evA tmps x with
    | some m, some s, some x => skp (entryStoreA P t m s x h)
    | _, _, _ => none
  | .typeAssert x _ t ok => match evA tmps x, P.underlying t with
    | some _, some (.interface _) => none
    | some (.iface t' v), some _ => match Nat.beq t' t, ok with
      | true, true => some (.tup [v, .bool true], h)
      | true, false => some (v, h)
      | false, true => match zeroT P t with
        | some z => some (.tup [z, .bool false], h)
        | none => none
      | false, false => none
    | some .nili, some _ => match ok, zeroT P t with
      | true, some z => some (.tup [z, .bool false], h)
      | _, _ => none
    | _, _ => none
  | .extract x i => match evA tmps x with
    | some (.tup l) => val h (nth l i)
    | _ => none
  | .call { callee := .builtin b, args, argTypes } => match evAll tmps args.toList with
    | some args => builtinA P b argTypes.toList args h
    | none => none
  | _ => none

/-- Has a function a body of Go's? -/
def bodied (P : Program) (f : FuncId) : Bool := match P.funcs[f]? with
  | some fn => match fn.body with
    | some _ => true
    | none => false
  | none => false

/-- Which Go function an operation calls, if it calls one. -/
def callee (P : Program) (tmps : List AV) (op : Op) : Option (Option (FuncId × List AV)) := match op with
  | .call { callee := .value f, args, .. } => match evA tmps f, evAll tmps args.toList with
    | some (.func fn first captured), some args => match targetA P fn (first ++ args) captured with
      | some (f, args) => match bodied P f, allKnown args with
        | true, true => some (some (f, args))
        | _, _ => none
      | none => none
    | _, _ => none
  | .call { callee := .invoke r name, args, .. } => match evA tmps r, evAll tmps args.toList with
    | some (.iface t v), some args => match methodA P t name with
      | some f => match bodied P f, allKnown (v :: args) with
        | true, true => some (some (f, v :: args))
        | _, _ => none
      | none => none
    | _, _ => none
  | _ => some none

/-! ### names -/
mutual
def names : AV → List Nat
  | .ptr b _ _ | .xs _ b _ _ _ | .ss _ b _ _ _ | .map b => [b]
  | .func _ l m => namesL l ++ namesL m
  | .iface _ v => names v
  | .agg l | .tup l => namesL l
  | _ => []
def namesL : List AV → List Nat
  | [] => []
  | v :: r => names v ++ namesL r
end

/-- All blocks that can be reached. -/
def reach (heap : List (Nat × AO)) : Nat → List Nat → List Nat → List Nat
  | 0, _, seen => seen
  | _ + 1, [], seen => seen
  | d + 1, n :: r, seen => match mem n seen with
    | true => reach heap d r seen
    | false => match get heap n with
      | some (.cells _ l) => reach heap d (namesL l ++ r) (n :: seen)
      | some _ => reach heap d r (n :: seen)
      | none => reach heap d r seen

def restrict (heap : List (Nat × AO)) : List Nat → List (Nat × AO)
  | [] => []
  | n :: r => match get heap n with
    | some o => (n, o) :: restrict heap r
    | none => restrict heap r

/-- Is an operation's memory that of its operands alone? None: it has to do with no memory. -/
def touches : Op → Bool
  | .load .. | .store .. | .lookup .. | .mapUpdate .. | .insert .. | .mapEntry .. | .entryStore .. | .call _ => true
  | .binOp .eql .. | .binOp .neq .. => true
  | _ => false

/-! ### guards -/
def dstOf (ops : List Oper) (j : Nat) : Option Tmp := match nth ops j with
  | some o => o.dst
  | none => none

def wantedA (ops : List Oper) (tmps : List AV) (o : Oper) : Option Bool := match o.guard with
  | none => some true
  | some (j, want) => match dstOf ops j with
    | none => some false
    | some d => match nth tmps d with
      | some (.bool b) => some (b == want)
      | some (.symb _) | some .top | some (.raw _) => none
      | _ => some false

def isSource (i : Nat) : List Oper → Bool
  | [] => false
  | o :: r => match o.guard with
    | some (j, _) => match Nat.beq i j with
      | true => true
      | false => isSource i r
    | none => isSource i r

/-- A truth value that a guard asks is decided as it comes up. -/
def settle (ops : List Oper) (i : Nat) (v : AV) (h : Hp) : Option (AV × Hp) := match v with
  | .symb b => match isSource i ops with
    | true => match h.dec (.symb b) with
      | some (c, h) => some (.bool c, h)
      | none => none
    | false => some (v, h)
  | v => some (v, h)

def putT (tmps : List AV) (dst : Option Tmp) (v : AV) : List AV := match dst with
  | some d => setNth tmps d v
  | none => tmps

end Go.Ev
