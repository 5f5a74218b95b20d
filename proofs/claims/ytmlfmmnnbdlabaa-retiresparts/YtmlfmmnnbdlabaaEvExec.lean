/-
  A symbolic evaluator over the model's code, second part: code, regions, calls. Definitions alone.
-/
import Derived.Test.YtmlfmmnnbdlabaaEvRen
namespace Go.Ev

structure Env where
  P : Program
  spec : FuncId → Option (List AV → Hp → Option (AV × Hp))
  lob : Code → St → Ex → St → Prop

/-- What of a heap a loop's obligation speaks of. -/
def Hp.bare (h : Hp) : Hp := ⟨h.heap, h.nxt, h.hi, [], [], h.wr, false⟩

/-- What an operation of a region that draws its order had to do with. -/
structure Rec where
  fp : List Nat
  wr : List Nat
  dst : Option Tmp
  looks : List Tmp

/-- How an operation of such a region went: what it had, what came of it. -/
structure DR where
  o : Oper
  wanted : Bool
  fp : List Nat
  v : AV
  h : Hp
  w : List Nat
  looks : List Tmp

def DR.rc (d : DR) : Rec := ⟨d.fp, d.w, d.o.dst, d.looks⟩

def anyMem : List Nat → List Nat → Bool
  | [], _ => false
  | n :: r, l => match mem n l with
    | true => true
    | false => anyMem r l

def optMem : Option Nat → List Nat → Bool
  | none, _ => false
  | some n, l => mem n l

def optBeq : Option Nat → Option Nat → Bool
  | some n, some m => Nat.beq n m
  | _, _ => false

/-- May two operations not change places? -/
def clash (a b : Rec) : Bool := match optMem a.dst b.looks, optBeq a.dst b.dst, optMem b.dst a.looks, anyMem a.wr b.fp, anyMem a.wr b.wr, anyMem b.wr a.fp with
  | false, false, false, false, false, false => false
  | _, _, _, _, _, _ => true

/-- The operations ahead of one, as bits; none: an edge that leads on. -/
def ancOf (ancs : List Nat) (i : Nat) : List Edge → Option Nat
  | [] => some 0
  | e :: r => match ancOf ancs i r with
    | none => none
    | some s => match Region.binds .any e with
      | false => some s
      | true => match nth ancs e.on with
        | some x => some (Nat.lor s (Nat.lor (2 ^ e.on) x))
        | none => none

/-- All ancestors, in the order of the text. -/
def ancAll : List Nat → List Oper → Option (List Nat)
  | acc, [] => some acc
  | acc, o :: r => match ancOf acc acc.length o.after.toList with
    | some x => ancAll (acc ++ [x]) r
    | none => none

/-- Does what came ahead, and may not change places with this one, stand ahead of it? -/
def orderly (anc : Nat) (r : Rec) : List DR → (k : Nat) → Bool
  | [], _ => true
  | x :: l, k => match clash x.rc r with
    | false => orderly anc r l (k + 1)
    | true => match Nat.testBit anc k with
      | true => orderly anc r l (k + 1)
      | false => false

/-- .. of all operations. -/
def orderlyAll (all : List DR) : List Nat → List DR → (i : Nat) → Bool
  | a :: ancs, d :: r, i => match takeN i all with
    | some pre => match orderly a d.rc pre 0 with
      | true => orderlyAll all ancs r (i + 1)
      | false => false
    | none => false
  | [], [], _ => true
  | _, _, _ => false

def looksAt (ops : List Oper) (o : Oper) : List Tmp :=
  (o.op.operands.toList.filterMap fun | .tmp t => some t | _ => none) ++
  (match o.guard with
   | some (g, _) => match dstOf ops g with
     | some d => [d]
     | none => []
   | none => [])

def mergeW (old new : List (Nat × AO)) : List Nat → List (Nat × AO)
  | [] => old
  | n :: r => match get new n with
    | some o => set (mergeW old new r) n o
    | none => del (mergeW old new r) n

/-- The slots that are looked at; the others are as if they were not known. -/
def tops : List AV → List AV
  | [] => []
  | _ :: r => .top :: tops r
def maskOn (l : List AV) (k0 : Nat) : List Nat → List AV
  | [] => tops l
  | k :: r => match Nat.ble k0 k with
    | true => match nth l (k - k0) with
      | some v => setNth (maskOn l k0 r) (k - k0) v
      | none => maskOn l k0 r
    | false => maskOn l k0 r
def mask (looks : List Nat) (l : List AV) (k0 : Nat) : List AV := maskOn l k0 looks

def newNames (lo hi : Nat) : List (Nat × AO) → List Nat
  | [] => []
  | (n, _) :: r => match Nat.ble lo n, Nat.blt n hi with
    | true, true => n :: newNames lo hi r
    | _, _ => newNames lo hi r

def addAll : List Nat → List Nat → List Nat
  | [], l => l
  | n :: r, l => add n (addAll r l)

def evTmps (tmps : List AV) : List Tmp → List AV
  | [] => []
  | t :: r => match nth tmps t with
    | some v => v :: evTmps tmps r
    | none => evTmps tmps r

def resultsA (P : Program) (tmps : List AV) : List ResultVar → Hp → Option (List AV × Hp)
  | [], h => some ([], h)
  | .tmp t :: r, h => match nth tmps t with
    | some v => match v.known, resultsA P tmps r h with
      | true, some (l, h) => some (v :: l, h)
      | _, _ => none
    | none => none
  | .cell a t :: r, h => match nth tmps a with
    | some v => match loadA P t v h with
      | some (v, h) => match resultsA P tmps r h with
        | some (l, h) => some (v :: l, h)
        | none => none
      | none => none
    | none => none

def oneOrAll : List AV → AV
  | [v] => v
  | l => .tup l

def takeNode : List Hint → List (Nat × List Hint) × List Hint
  | .node l :: r => (l, r)
  | .k n :: r => match n, r with
    | 0, .node l :: r => (l, r)
    | n, r => ([(gnm 0, [.k n])], .k n :: r)
  | l => ([], l)

def childHints (l : List (Nat × List Hint)) (i : Nat) : List Hint := match get l i with
  | some x => x
  | none => match get l (gnm 0) with
    | some x => x
    | none => []

/-- Is there an array among them whose cells may be pointers? -/
def hasV (heap : List (Nat × AO)) : List Nat → Bool
  | [] => false
  | n :: r => match get heap n with
    | some (.arr _ sh _ _ _) => match plainSh sh with
      | true => hasV heap r
      | false => true
    | _ => hasV heap r
def mbNames : List (Nat × AO) → List Nat → List Nat
  | [], l => l
  | (n, _) :: r, l => match Nat.ble 900 n, Nat.blt n 1000 with
    | true, true => mbNames r (add n l)
    | _, _ => mbNames r l
/-- .. then a family's member that is shown, too. -/
def addMbs (heap : List (Nat × AO)) (l : List Nat) : List Nat := match hasV heap l with
  | true => mbNames heap l
  | false => l

/-- The blocks that an operation may have to do with. -/
def drawFp (P : Program) (heap : List (Nat × AO)) (tmps : List AV) (all : List Oper) (o : Oper) : List Nat := match touches o.op with
  | true => match callee P (mask (looksAt all o) tmps 0) o.op with
    | some (some (_, args)) => addGlobs heap (addMbs heap (reach heap 10000 (namesL args) []))
    | _ => addGlobs heap (namesL (evTmps tmps (looksAt all o)))
  | false => []

def notTmp (d : Nat) : Operand → Bool
  | .tmp y => match Nat.beq d y with
    | true => false
    | false => true
  | _ => true

/-- 'm[x], .. = v, ..': the entry is made, its stamp taken, the value stored there. -/
def fuse : List Oper → Option (TypeId × Nat × Operand × Operand × Nat × Nat × List Oper)
  | ⟨some d, .mapEntry t (.tmp x) k, _, _, _, none⟩ :: ⟨some e, .extract (.tmp d') 1, _, _, _, none⟩ :: ⟨none, .entryStore t' (.tmp x') (.tmp e') v, _, _, _, none⟩ :: rest =>
    match Nat.beq d' d, Nat.beq e' e, Nat.beq t' t, Nat.beq x' x, Nat.beq x d, Nat.beq x e, notTmp d v, notTmp e v, Nat.beq d e with
    | true, true, true, true, false, false, true, true, false => some (t, x, k, v, d, e, rest)
    | _, _, _, _, _, _, _, _, _ => none
  | _ => none

/-- .. as one step. -/
def fused (P : Program) (s : St) (l : List Oper) : Option (St × List Oper) := match fuse l with
  | some (t, x, k, v, d, e, rest) => match nth s.tmps x, evA s.tmps k, evA s.tmps v, nth s.tmps d, nth s.tmps e, mapKinds P t with
    | some m, some k, some v, some _, some _, some (_, _, vk) => match zeroOk P t vk, updateA P t m k v s.hp with
      | some _, some h => some (⟨setNth (setNth s.tmps d .top) e .top, h⟩, rest)
      | _, _ => none
    | _, _, _, _, _, _ => none
  | none => none

/-- By a contract, where there is one that fits. -/
def specTry (E : Env) (f : FuncId) (args : List AV) (h : Hp) : Option (AV × Hp) := match E.spec f with
  | some g => g args h
  | none => none

/-- Names: a number from gnm 0 on means: the name in that slot. -/
def nameOf : AV → Option Nat
  | .ptr b _ _ | .xs _ b _ _ _ | .ss _ b _ _ _ | .map b => some b
  | _ => none
def rslv (tmps : List AV) : List Nat → Option (List Nat)
  | [] => some []
  | n :: r => match Nat.ble (gnm 0) n, rslv tmps r with
    | true, some l => match nth tmps (n - gnm 0) with
      | some v => match nameOf v with
        | some b => some (b :: l)
        | none => none
      | none => none
    | false, some l => some (n :: l)
    | _, none => none

/-- A loop's start, seen under names of its own: what is kept of the slots, the first p of the names with their blocks. -/
def loopIn (keep r : List Nat) (p : Nat) (s : St) : Option St := match renL (toLoc r) (mask keep s.tmps 0), takeN p r with
  | some la, some rp => match locHeap (toLoc r) s.hp.heap rp, allIn s.hp.heap r, nodupB r, notGlobB r && Nat.ble s.hp.hi (gnm 0) with
    | some lh, true, true, true => some ⟨la, ⟨lh, r.length + 1, gnm 0, [], [], [], false⟩⟩
    | _, _, _, _ => none
  | _, _ => none

/-- .. and what comes of it. -/
def loopOut (r : List Nat) (p n : Nat) (tm : List AV) (heap : List (Nat × AO)) (wr : List Nat) (s : St) : Option (List AV × List (Nat × AO) × List Nat) :=
  match Nat.ble (r.length + 1 + n) (gnm 0) && (Nat.ble (s.hp.nxt + n) s.hp.hi && noneAt p r.length heap), renL (toOut r s.hp.nxt n) tm, outHeapP (toOut r s.hp.nxt n) heap s.hp.heap p r.length (r.length + n), outNames (toOut r s.hp.nxt n) wr with
  | true, some tm, some hp, some wr => some (tm, hp, wr)
  | _, _, _, _ => none

/-! ### closed states in normal form: nothing changes, but no work is left behind -/
def fNat : Nat → Option Nat
  | 0 => some 0
  | n + 1 => some (n + 1)
def fInt : Int → Option Int
  | .ofNat m => match fNat m with
    | some m => some (.ofNat m)
    | none => none
  | .negSucc m => match fNat m with
    | some m => some (.negSucc m)
    | none => none
def fKind : IntKind → Option IntKind
  | .i8 => some .i8
  | .i16 => some .i16
  | .i32 => some .i32
  | .i64 => some .i64
  | .u8 => some .u8
  | .u16 => some .u16
  | .u32 => some .u32
  | .u64 => some .u64
def fS : AV → Option AV
  | .int k n => match fKind k, fInt n with
    | some k, some n => some (.int k n)
    | _, _ => none
  | .bool b => match b with
    | true => some (.bool true)
    | false => some (.bool false)
  | .ptr b i j => match fNat b, fNat i, fNat j with
    | some b, some i, some j => some (.ptr b i j)
    | _, _, _ => none
  | .xs wd b o l c => match fNat wd, fNat b, fNat o, fNat l with
    | some wd, some b, some o, some l => some (.xs wd b o l c)
    | _, _, _, _ => none
  | .map b => match fNat b with
    | some b => some (.map b)
    | none => none
  | v => some v
def fL : List AV → Option (List AV)
  | [] => some []
  | x :: r => match fS x, fL r with
    | some x, some r => some (x :: r)
    | _, _ => none
def fV : AV → Option AV
  | .agg l => match fL l with
    | some l => some (.agg l)
    | none => none
  | .tup l => match fL l with
    | some l => some (.tup l)
    | none => none
  | v => fS v
def fVs : List AV → Option (List AV)
  | [] => some []
  | x :: r => match fV x, fVs r with
    | some x, some r => some (x :: r)
    | _, _ => none
def fO : AO → Option AO
  | .cells wd l => match fNat wd, fVs l with
    | some wd, some l => some (.cells wd l)
    | _, _ => none
  | o => some o
def fH : List (Nat × AO) → Option (List (Nat × AO))
  | [] => some []
  | (n, o) :: r => match fNat n, fO o, fH r with
    | some n, some o, some r => some ((n, o) :: r)
    | _, _, _ => none
def fNs : List Nat → Option (List Nat)
  | [] => some []
  | n :: r => match fNat n, fNs r with
    | some n, some r => some (n :: r)
    | _, _ => none
def fSt (s : St) : Option St := match s.hp.auto with
  | false => some s
  | true => match fVs s.tmps, fH s.hp.heap, fNat s.hp.nxt, fNs s.hp.wr with
    | some t, some h, some n, some w => some ⟨t, ⟨h, n, s.hp.hi, s.hp.hints, s.hp.ob, w, s.hp.auto⟩⟩
    | _, _, _, _ => none
theorem fNat_eq (n : Nat) : fNat n = some n := by cases n <;> rfl
theorem fInt_eq (n : Int) : fInt n = some n := by cases n <;> simp [fInt, fNat_eq]
theorem fKind_eq (k : IntKind) : fKind k = some k := by cases k <;> rfl
theorem fS_eq (v : AV) : fS v = some v := by
  cases v <;> simp [fS, fInt_eq, fKind_eq, fNat_eq] <;> (rename_i b; cases b <;> rfl)
theorem fL_eq : ∀ l : List AV, fL l = some l
  | [] => rfl
  | x :: r => by simp [fL, fS_eq, fL_eq r]
theorem fV_eq (v : AV) : fV v = some v := by
  cases v <;> simp [fV, fL_eq, fS_eq]
theorem fVs_eq : ∀ l : List AV, fVs l = some l
  | [] => rfl
  | x :: r => by simp [fVs, fV_eq, fVs_eq r]
theorem fO_eq (o : AO) : fO o = some o := by
  cases o <;> simp [fO, fNat_eq, fVs_eq]
theorem fH_eq : ∀ l : List (Nat × AO), fH l = some l
  | [] => rfl
  | (n, o) :: r => by simp [fH, fNat_eq, fO_eq, fH_eq r]
theorem fNs_eq : ∀ l : List Nat, fNs l = some l
  | [] => rfl
  | n :: r => by simp [fNs, fNat_eq, fNs_eq r]
theorem fSt_eq (s : St) : fSt s = some s := by
  unfold fSt
  split
  · rfl
  · simp only [fVs_eq, fH_eq, fNat_eq, fNs_eq]

mutual
def exec (E : Env) : Nat → Code → St → Option (Ex × St)
  | 0, _, _ => none
  | n + 1, c, s => match c with
    | .skip => some (.norm, s)
    | .label _ => some (.norm, s)
    | .region _ ops draw => match draw with
      | false => match seqOps E n ops.toList 0 ops.toList s with
        | some s => some (.norm, s)
        | none => none
      | true => match ancAll [] ops.toList, takeNode s.hp.hints with
        | some ancs, (hs, rest) =>
          match fNat s.hp.nxt, fNat s.hp.hi with
          | some lo, some hi => match drawOps E n ops.toList 0 ops.toList lo ((hi - lo) / 65536) hs { s with hp := { s.hp with hints := rest } } with
            | some (ds, s) => match orderlyAll ds ancs ds 0 with
              | true => some (.norm, s)
              | false => none
            | none => none
          | _, _ => none
        | none, _ => none
    | .seq a b => match exec E n a s with
      | some (.norm, s) => match fSt s with
        | some s => exec E n b s
        | none => none
      | r => r
    | .cond x a b => match evA s.tmps x with
      | some v => match s.hp.dec v with
        | some (true, h) => exec E n a { s with hp := h }
        | some (false, h) => exec E n b { s with hp := h }
        | none => none
      | none => none
    | .block id body => match exec E n body s with
      | some (.exit i, s) => match Nat.beq i id with
        | true => some (.norm, s)
        | false => some (.exit i, s)
      | r => r
    | .loop body => match s.hp.hints with
      | .lp keep e tm heap nxt wr :: r => match Nat.ble s.hp.nxt nxt with
        | true => some (e, ⟨tm, ⟨heap, nxt, s.hp.hi, r, E.lob body ⟨mask keep s.tmps 0, s.hp.bare⟩ e ⟨tm, ⟨heap, nxt, s.hp.hi, [], [], addAll wr s.hp.wr, false⟩⟩ :: s.hp.ob, addAll wr s.hp.wr, s.hp.auto⟩⟩)
        | false => none
      | .lpl keep q p e tm heap k wr :: r => match rslv s.tmps q with
        | some q => match loopIn keep q p s, loopOut q p k tm heap wr s with
          | some sl, some (tmo, hpo, wro) => some (e, ⟨tmo, ⟨hpo, s.hp.nxt + k, s.hp.hi, r, E.lob body sl e ⟨tm, ⟨heap, q.length + 1 + k, gnm 0, [], [], wr, false⟩⟩ :: s.hp.ob, addAll wro s.hp.wr, s.hp.auto⟩⟩)
          | _, _ => none
        | none => none
      | .a _ :: r => loopX E n body { s with hp := { s.hp with hints := r } }
      | _ => loopX E n body s
    | .exit id => some (.exit id, s)
    | .goto l => some (.goto l, s)
    | .ret => some (.ret, s)
    | .scope body => match exec E n body s with
      | some (.goto l, s) => match findLabel body l with
        | some rest => match exec E n rest s with
          | some (.goto _, _) => none
          | r => r
        | none => some (.goto l, s)
      | r => r
    | _ => none
termination_by structural n _ _ => n
def loopX (E : Env) : Nat → Code → St → Option (Ex × St)
  | 0, _, _ => none
  | n + 1, body, s => match exec E n body s with
    | some (.norm, s) => loopX E n body s
    | r => r
termination_by structural n _ _ => n
def seqOps (E : Env) : Nat → List Oper → Nat → List Oper → St → Option St
  | 0, _, _, _, _ => none
  | n + 1, all, i, rest, s => match rest with
    | [] => some s
    | o :: rest => match fused E.P s (o :: rest) with
    | some (s, rest) => seqOps E n all (i + 3) rest s
    | none => match wantedA all s.tmps o with
      | some true => match oper E n s.tmps o.op s.hp with
        | some (v, h) => match settle all i v h with
          | some (v, h) => seqOps E n all (i + 1) rest ⟨putT s.tmps o.dst v, h⟩
          | none => none
        | none => none
      | some false => seqOps E n all (i + 1) rest ⟨putT s.tmps o.dst (.tup []), s.hp⟩
      | none => none
termination_by structural n _ _ _ _ => n
def drawOps (E : Env) : Nat → List Oper → Nat → List Oper → (lo step : Nat) → List (Nat × List Hint) → St → Option (List DR × St)
  | 0, _, _, _, _, _, _, _ => none
  | n + 1, all, i, rest, lo, step, hs, s => match rest with
    | [] => match Nat.ble lo s.hp.hi with
      | true => some ([], { s with hp := { s.hp with nxt := lo } })
      | false => none
    | o :: rest => match wantedA all s.tmps o with
      | some true =>
        match oper E n s.tmps o.op ⟨restrict s.hp.heap (drawFp E.P s.hp.heap s.tmps all o), lo, lo + step, childHints hs i, [], [], s.hp.auto⟩ with
        | some (v, h) => match settle all i v h with
          | some (v, h) => match Nat.ble h.nxt (lo + step) with
            | true =>
              match drawOps E n all (i + 1) rest (lo + step) step hs
                  ⟨putT s.tmps o.dst v, { s.hp with heap := mergeW s.hp.heap h.heap (addAll (newNames lo (lo + step) h.heap) h.wr), ob := h.ob ++ s.hp.ob, wr := addAll h.wr s.hp.wr }⟩ with
              | some (ds, s') => some (⟨o, true, drawFp E.P s.hp.heap s.tmps all o, v, h, addAll (newNames lo (lo + step) h.heap) h.wr, looksAt all o⟩ :: ds, s')
              | none => none
            | false => none
          | none => none
        | none => none
      | some false =>
        match drawOps E n all (i + 1) rest (lo + step) step hs ⟨putT s.tmps o.dst (.tup []), s.hp⟩ with
        | some (ds, s') => some (⟨o, false, [], .tup [], s.hp, [], looksAt all o⟩ :: ds, s')
        | none => none
      | none => none
termination_by structural n _ _ _ _ _ _ _ => n
def oper (E : Env) : Nat → List AV → Op → Hp → Option (AV × Hp)
  | 0, _, _, _ => none
  | n + 1, tmps, op, h => match callee E.P tmps op with
    | none => none
    | some none => op1 E.P tmps op h
    | some (some (f, args)) => callF E n f args h
termination_by structural n _ _ _ => n
def callF (E : Env) : Nat → FuncId → List AV → Hp → Option (AV × Hp)
  | 0, _, _, _ => none
  | n + 1, f, args, h => match specTry E f args h with
    | some r => some r
    | none => match E.P.funcs[f]? with
      | some fn => match fn.body with
        | some c => match allKnown args with
          | true => match exec E n c ⟨args ++ List.replicate (fn.ntmps - args.length) (.tup []), h⟩ with
            | some (.norm, s) | some (.ret, s) => match resultsA E.P s.tmps fn.results.toList s.hp with
              | some (l, h) => some (oneOrAll l, h)
              | none => none
            | _ => none
          | false => none
        | none => none
      | none => none
termination_by structural n _ _ _ => n
end

end Go.Ev
