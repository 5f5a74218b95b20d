/-
  What abstract values and objects stand for, and how memory is read and written: the soundness of the evaluator, first part.
-/
import Derived.Test.YtmlfmmnnbdlabaaEvExec
import Derived.WalkKit
set_option linter.unusedSimpArgs false
set_option linter.unusedVariables false
namespace Go.Ev

/-! ### lists -/
theorem nth_eq {α : Type} : ∀ (l : List α) (k : Nat), nth l k = l[k]?
  | [], _ => by simp [nth]
  | x :: r, 0 => by simp [nth]
  | x :: r, k + 1 => by simp [nth, nth_eq r k]

theorem setNth_eq {α : Type} : ∀ (l : List α) (k : Nat) (y : α), setNth l k y = l.set k y
  | [], _, _ => by simp [setNth]
  | x :: r, 0, y => by simp [setNth]
  | x :: r, k + 1, y => by simp [setNth, setNth_eq r k]

theorem takeN_eq {α : Type} : ∀ (n : Nat) (l t : List α), takeN n l = some t → n ≤ l.length ∧ t = l.take n
  | 0, l, t, h => by simp [takeN] at h; simp [h]
  | n + 1, [], t, h => by simp [takeN] at h
  | n + 1, x :: r, t, h => by
    simp only [takeN] at h
    split at h
    · rename_i t' ht
      have := takeN_eq n r t' ht
      cases h
      simp [this.2]; omega
    · cases h

theorem dropN_eq {α : Type} : ∀ (n : Nat) (l : List α), dropN n l = l.drop n
  | 0, l => by simp [dropN]
  | n + 1, [] => by simp [dropN]
  | n + 1, x :: r => by simp [dropN, dropN_eq n r]

theorem get_set {α : Type} : ∀ (l : List (Nat × α)) (k : Nat) (y : α) (n : Nat), get (set l k y) n = if n = k then some y else get l n
  | [], k, y, n => by
    simp only [set, get]
    by_cases h : n = k
    · subst h; simp
    · have : Nat.beq k n = false := by rw [← Bool.not_eq_true, Nat.beq_eq]; exact fun e => h e.symm
      simp [this, h]
  | (m, x) :: r, k, y, n => by
    simp only [set]
    split
    · rename_i hmk
      have hmk := Nat.eq_of_beq_eq_true hmk
      subst hmk
      simp only [get]
      by_cases h : n = m
      · subst h; simp
      · have : Nat.beq m n = false := by rw [← Bool.not_eq_true, Nat.beq_eq]; exact fun e => h e.symm
        simp [this, h]
    · rename_i hmk
      simp only [get]
      rw [get_set r k y n]
      split
      · rename_i hmn
        have := Nat.eq_of_beq_eq_true hmn
        subst this
        by_cases h : m = k
        · subst h; simp at hmk
        · simp [h]
      · rfl

theorem get_del {α : Type} : ∀ (l : List (Nat × α)) (k n : Nat), get (del l k) n = if n = k then none else get l n
  | [], k, n => by simp [del, get]
  | (m, x) :: r, k, n => by
    simp only [del]
    split
    · rename_i hmk
      have hmk := Nat.eq_of_beq_eq_true hmk
      subst hmk
      rw [get_del r m n]
      simp only [get]
      by_cases h : n = m
      · subst h; simp
      · have : Nat.beq m n = false := by rw [← Bool.not_eq_true, Nat.beq_eq]; exact fun e => h e.symm
        simp [this, h]
    · rename_i hmk
      simp only [get]
      rw [get_del r k n]
      split
      · rename_i hmn
        have := Nat.eq_of_beq_eq_true hmn
        subst this
        by_cases h : m = k
        · subst h; simp at hmk
        · simp [h]
      · rfl

theorem mem_iff (k : Nat) : ∀ l : List Nat, mem k l = true ↔ k ∈ l
  | [] => by simp [mem]
  | n :: r => by
    simp only [mem]
    split
    · rename_i h; simp [Nat.eq_of_beq_eq_true h]
    · rename_i h
      have : n ≠ k := fun e => by subst e; simp at h
      rw [mem_iff k r]; simp [Ne.symm this]

theorem mem_add {n k : Nat} {l : List Nat} : n ∈ add k l ↔ n = k ∨ n ∈ l := by
  unfold add
  split
  · rename_i h; have := (mem_iff k l).1 h; constructor
    · exact .inr
    · rintro (rfl | h) <;> assumption
  · simp

/-! ### what values stand for -/
structure Loc where
  blk : Nat
  base : Nat
  wid : Nat
  cap : Nat
  isnil : Bool

abbrev Ren := Nat → Option Loc

def Loc.slice (l : Loc) (wd off len : Nat) (c : Option Nat) : Option Value :=
  if l.wid = wd then match l.isnil with
  | true => if off = 0 ∧ len = 0 ∧ capOr c 0 = 0 then some (.slice none 0 0) else none
  | false => if len ≤ capOr c (l.cap - off) ∧ off + capOr c (l.cap - off) ≤ l.cap then some (.slice (some ⟨l.blk, l.base + off * l.wid, none⟩) len (capOr c (l.cap - off))) else none
  else none

mutual
def den (ρ : Ren) : AV → Option Value
  | .top => none
  | .int k n | .sym k n => some (.int k n)
  | .bool b | .symb b => some (.bool b)
  | .nilp => some (.pointer none)
  | .ptr b i j => match ρ b with
    | some l => match l.isnil with
      | false => some (.pointer (some ⟨l.blk, l.base + i * l.wid + j, none⟩))
      | true => none
    | none => none
  | .nils => some (.slice none 0 0)
  | .xs wd b off len c => match ρ b with
    | some l => match l.isnil with
      | false => l.slice wd off len c
      | true => none
    | none => none
  | .ss wd b off len c => match ρ b with
    | some l => l.slice wd off len c
    | none => none
  | .nilm => some (.map none)
  | .map b => match ρ b with
    | some l => some (.map (some l.blk))
    | none => none
  | .nilf => some .nilFunc
  | .func f l m => match denL ρ l, denL ρ m with
    | some l, some m => some (.func f l.toArray m.toArray)
    | _, _ => none
  | .nili => some .nilIface
  | .iface t v => match den ρ v with
    | some v => some (.iface t v)
    | none => none
  | .agg l => match denL ρ l with
    | some l => some (.agg l.toArray)
    | none => none
  | .tup l => match denL ρ l with
    | some l => some (.tuple l.toArray)
    | none => none
  | .stamp n => match ρ n with
    | some l => some (goInt l.blk)
    | none => none
  | .raw v => some v
def denL (ρ : Ren) : List AV → Option (List Value)
  | [] => some []
  | v :: r => match den ρ v, denL ρ r with
    | some v, some l => some (v :: l)
    | _, _ => none
end

/-- A renaming that knows more. -/
def Le (ρ ρ' : Ren) : Prop := ∀ n l, ρ n = some l → ρ' n = some l

theorem Le.refl (ρ : Ren) : Le ρ ρ := fun _ _ h => h
theorem Le.trans {ρ ρ' ρ'' : Ren} (h : Le ρ ρ') (h' : Le ρ' ρ'') : Le ρ ρ'' := fun n l e => h' n l (h n l e)

mutual
theorem den_mono {ρ ρ' : Ren} (h : Le ρ ρ') : ∀ (v : AV) (x : Value), den ρ v = some x → den ρ' v = some x
  | .top, x, e => by simp [den] at e
  | .int .., x, e => by simpa [den] using e
  | .sym .., x, e => by simpa [den] using e
  | .bool .., x, e => by simpa [den] using e
  | .symb .., x, e => by simpa [den] using e
  | .nilp, x, e => by simpa [den] using e
  | .ptr b i j, x, e => by
    simp only [den] at e ⊢
    cases hb : ρ b with
    | none => simp [hb] at e
    | some l => rw [h b l hb]; rw [hb] at e; exact e
  | .nils, x, e => by simpa [den] using e
  | .xs wd b off len c, x, e => by
    simp only [den] at e ⊢
    cases hb : ρ b with
    | none => simp [hb] at e
    | some l => rw [h b l hb]; rw [hb] at e; exact e
  | .ss wd b off len c, x, e => by
    simp only [den] at e ⊢
    cases hb : ρ b with
    | none => simp [hb] at e
    | some l => rw [h b l hb]; rw [hb] at e; exact e
  | .nilm, x, e => by simpa [den] using e
  | .map b, x, e => by
    simp only [den] at e ⊢
    cases hb : ρ b with
    | none => simp [hb] at e
    | some l => rw [h b l hb]; rw [hb] at e; exact e
  | .nilf, x, e => by simpa [den] using e
  | .func f l m, x, e => by
    simp only [den] at e ⊢
    cases hl : denL ρ l with
    | none => simp [hl] at e
    | some l' => cases hm : denL ρ m with
      | none => simp [hl, hm] at e
      | some m' => rw [denL_mono h l l' hl, denL_mono h m m' hm]; rw [hl, hm] at e; exact e
  | .nili, x, e => by simpa [den] using e
  | .iface t v, x, e => by
    simp only [den] at e ⊢
    cases hl : den ρ v with
    | none => simp [hl] at e
    | some l' => rw [den_mono h v l' hl]; rw [hl] at e; exact e
  | .agg l, x, e => by
    simp only [den] at e ⊢
    cases hl : denL ρ l with
    | none => simp [hl] at e
    | some l' => rw [denL_mono h l l' hl]; rw [hl] at e; exact e
  | .tup l, x, e => by
    simp only [den] at e ⊢
    cases hl : denL ρ l with
    | none => simp [hl] at e
    | some l' => rw [denL_mono h l l' hl]; rw [hl] at e; exact e
  | .stamp n, x, e => by
    simp only [den] at e ⊢
    cases hb : ρ n with
    | none => simp [hb] at e
    | some l => rw [h n l hb]; rw [hb] at e; exact e
  | .raw v, x, e => by simpa [den] using e
theorem denL_mono {ρ ρ' : Ren} (h : Le ρ ρ') : ∀ (l : List AV) (x : List Value), denL ρ l = some x → denL ρ' l = some x
  | [], x, e => by simpa [denL] using e
  | v :: r, x, e => by
    simp only [denL] at e ⊢
    cases hv : den ρ v with
    | none => simp [hv] at e
    | some v' => cases hr : denL ρ r with
      | none => simp [hv, hr] at e
      | some r' => rw [den_mono h v v' hv, denL_mono h r r' hr]; rw [hv, hr] at e; exact e
end

/-- A value that is not known stands for any. -/
def relS (ρ : Ren) (v : AV) (x : Value) : Prop := v = .top ∨ den ρ v = some x

theorem relS.mono {ρ ρ' : Ren} (h : Le ρ ρ') {v : AV} {x : Value} (e : relS ρ v x) : relS ρ' v x := e.imp id (den_mono h v x)

/-- Lists of values, place by place. -/
def RelL (ρ : Ren) (l : List AV) (xs : List Value) : Prop := l.length = xs.length ∧ ∀ (k : Nat) v, l[k]? = some v → ∃ x, xs[k]? = some x ∧ relS ρ v x

theorem RelL.mono {ρ ρ' : Ren} (h : Le ρ ρ') {l : List AV} {xs : List Value} (e : RelL ρ l xs) : RelL ρ' l xs :=
  ⟨e.1, fun k v hv => let ⟨x, hx, r⟩ := e.2 k v hv; ⟨x, hx, r.mono h⟩⟩

theorem denL_length {ρ : Ren} : ∀ (l : List AV) (xs : List Value), denL ρ l = some xs → l.length = xs.length
  | [], xs, e => by simp [denL] at e; simp [e]
  | v :: r, xs, e => by
    simp only [denL] at e
    cases hv : den ρ v with
    | none => simp [hv] at e
    | some v' => cases hr : denL ρ r with
      | none => simp [hv, hr] at e
      | some r' => rw [hv, hr] at e; cases e; simp [denL_length r r' hr]

theorem denL_get {ρ : Ren} : ∀ (l : List AV) (xs : List Value), denL ρ l = some xs → ∀ (k : Nat) v, l[k]? = some v → ∃ x, xs[k]? = some x ∧ den ρ v = some x
  | [], xs, e, k, v, h => by simp at h
  | a :: r, xs, e, k, v, h => by
    simp only [denL] at e
    cases hv : den ρ a with
    | none => simp [hv] at e
    | some v' => cases hr : denL ρ r with
      | none => simp [hv, hr] at e
      | some r' =>
        rw [hv, hr] at e; cases e
        cases k with
        | zero => simp at h; subst h; exact ⟨v', by simp, hv⟩
        | succ k => simp at h; obtain ⟨x, hx, hd⟩ := denL_get r r' hr k v h; exact ⟨x, by simpa using hx, hd⟩

theorem denL_of {ρ : Ren} : ∀ (l : List AV) (xs : List Value), l.length = xs.length → (∀ (k : Nat) v, l[k]? = some v → ∃ x, xs[k]? = some x ∧ den ρ v = some x) → denL ρ l = some xs
  | [], [], _, _ => rfl
  | [], _ :: _, h, _ => by simp at h
  | _ :: _, [], h, _ => by simp at h
  | a :: r, y :: ys, h, hk => by
    obtain ⟨x, hx, hd⟩ := hk 0 a (by simp)
    simp at hx; subst hx
    have hr := denL_of r ys (by simpa using h) (fun k v hv => by
      obtain ⟨x, hx, hd⟩ := hk (k + 1) v (by simpa using hv)
      exact ⟨x, by simpa using hx, hd⟩)
    simp [denL, hd, hr]

theorem denL_append {ρ : Ren} : ∀ (l m : List AV) (xs ys : List Value), denL ρ l = some xs → denL ρ m = some ys → denL ρ (l ++ m) = some (xs ++ ys)
  | [], m, xs, ys, e, e' => by simp [denL] at e; subst e; simpa using e'
  | a :: r, m, xs, ys, e, e' => by
    simp only [denL] at e
    cases hv : den ρ a with
    | none => simp [hv] at e
    | some v' => cases hr : denL ρ r with
      | none => simp [hv, hr] at e
      | some r' => rw [hv, hr] at e; cases e; simp [denL, hv, denL_append r m r' ys hr e']

/-! ### objects -/
def kindOk (k : CK) (v : AV) : Prop := match k with
  | .int k => ∃ n, v = .int k n ∨ v = .sym k n
  | .bool => ∃ b, v = .bool b ∨ v = .symb b
  | .val => v.oneCell = true

/-- The value of a map's key. -/
def cellKey : CK → Int → Value
  | .int k, n => .int k n
  | .bool, n => .bool (n == 1)
  | .val, _ => undef

def keyCells : List CK → List Int → List Value
  | k :: ks, n :: ns => cellKey k n :: keyCells ks ns
  | _, _ => []

def keyVal (ks : List CK) (agg : Bool) (l : List Int) : Value := match agg with
  | true => .agg (keyCells ks l).toArray
  | false => match keyCells ks l with
    | [v] => v
    | _ => undef

/-- Numbers that are a key's. -/
def keyWf : List CK → List Int → Prop
  | [], [] => True
  | .bool :: ks, n :: ns => (n = 0 ∨ n = 1) ∧ keyWf ks ns
  | .int _ :: ks, _ :: ns => keyWf ks ns
  | _, _ => False

/-- The entries of a map: each one's key is some numbers' value, none stands there twice, and what is found is what f says. -/
def MapRep (ks : List CK) (agg : Bool) (vk : IntKind) (es : List MapEntry) (f : List Int → Option Int) : Prop :=
  ∃ kl : List (List Int × Int), es.map (fun e => (e.key, e.val)) = kl.map (fun x => (keyVal ks agg x.1, .int vk x.2)) ∧ (kl.map (·.1)).Nodup ∧ (∀ x ∈ kl, keyWf ks x.1) ∧
    ∀ k, keyWf ks k → f k = (kl.find? (fun x => x.1 == k)).map (·.2)

/-- A map's stamps: no two alike, all of them given out. -/
def BornOk (es : List MapEntry) (c : Nat) : Prop := (∀ e ∈ es, e.born < c) ∧ (es.map (·.born)).Nodup

def ObjRep (P : Program) (ρ : Ren) (w : World) (l : Loc) : AO → Prop
  | .cells wd cs => l.isnil = false ∧ l.cap ≠ 0 ∧ l.wid = wd ∧ ∃ c t fr, w.heap[l.blk]? = some (.cells c t fr) ∧ fr.2 ≤ fr.1 ∧ cs.length ≤ l.cap * wd ∧ l.base + l.cap * wd ≤ c.size ∧
      ∀ (j : Nat) v, cs[j]? = some v → ∃ x, c[l.base + j]? = some x ∧ relS ρ v x
  | .arr wd sh ro len f => l.wid = wd ∧ sh.length = wd ∧ len ≤ l.cap ∧ (l.isnil = true → l.cap = 0) ∧ (l.cap ≠ 0 → ∃ c t fr, w.heap[l.blk]? = some (.cells c t fr) ∧ (ro = false → fr.2 ≤ fr.1) ∧ l.base + l.cap * wd ≤ c.size ∧
      ∀ i, i < len → ∀ (j : Nat) k, sh[j]? = some k → kindOk k (f i j) ∧ ∃ x, c[l.base + i * wd + j]? = some x ∧ den ρ (f i j) = some x)
  | .map t f => l.isnil = false ∧ l.cap ≠ 0 ∧ ∃ ks agg vk, mapKinds P t = some (ks, agg, vk) ∧ ∃ es clock, w.heap[l.blk]? = some (.map es clock) ∧ BornOk es.toList clock ∧ MapRep ks agg vk es.toList f
  | .mapP t f n k => l.isnil = false ∧ l.cap ≠ 0 ∧ ∃ ks agg vk, mapKinds P t = some (ks, agg, vk) ∧ keyWf ks k ∧ ∃ es clock, w.heap[l.blk]? = some (.map es clock) ∧ BornOk es.toList clock ∧ MapRep ks agg vk es.toList f ∧
      ∃ s e, ρ n = some s ∧ e ∈ es.toList ∧ e.key = keyVal ks agg k ∧ e.born = s.blk

/-- An object that is only read: it may share its block with others such. -/
def AO.ro : AO → Bool
  | .arr _ _ r _ _ => r
  | _ => false

def HeapRep (P : Program) (ρ : Ren) (heap : List (Nat × AO)) (w : World) : Prop :=
  (∀ n o, get heap n = some o → ∃ l, ρ n = some l ∧ ObjRep P ρ w l o) ∧
  ∀ n m o o' l l', get heap n = some o → get heap m = some o' → n ≠ m → (o.ro && o'.ro) = false → ρ n = some l → ρ m = some l' → l.cap ≠ 0 → l'.cap ≠ 0 → l.blk ≠ l'.blk

/-- The names of package-level variables stand for their blocks. -/
def GOk (ρ : Ren) : Prop := ∀ g, ∃ l, ρ (gnm g) = some l ∧ l.blk = g ∧ l.base = 0 ∧ l.isnil = false

theorem GOk.mono {ρ ρ' : Ren} (h : Le ρ ρ') (G : GOk ρ) : GOk ρ' := fun g => let ⟨l, hl, r⟩ := G g; ⟨l, h _ l hl, r⟩

def Fresh (ρ : Ren) (lo hi : Nat) : Prop := ∀ n, lo ≤ n → n < hi → ρ n = none

/-- The blocks of the names of a list that are there, and own their blocks. -/
def Owned (ρ : Ren) (heap : List (Nat × AO)) (wr : List Nat) (b : Nat) : Prop := ∃ m ∈ wr, ∃ o l, get heap m = some o ∧ o.ro = false ∧ ρ m = some l ∧ l.cap ≠ 0 ∧ l.blk = b

structure Fr (w w' : World) (B : Nat → Prop) : Prop where
  size : w.heap.size ≤ w'.heap.size
  same : ∀ b, b < w.heap.size → ¬ B b → w'.heap[b]? = w.heap[b]?
  tape : w'.tape = w.tape
  os : w'.os = w.os
  output : w'.output = w.output

theorem Fr.refl (w : World) (B : Nat → Prop) : Fr w w B := ⟨Nat.le_refl _, fun _ _ _ => rfl, rfl, rfl, rfl⟩

theorem Fr.trans {w w' w'' : World} {B B' C : Nat → Prop} (h : Fr w w' B) (h' : Fr w' w'' B') (hB : ∀ b, B b → C b) (hB' : ∀ b, B' b → C b) : Fr w w'' C :=
  ⟨Nat.le_trans h.size h'.size, fun b hb hn => (h'.same b (Nat.lt_of_lt_of_le hb h.size) (fun x => hn (hB' b x))).trans (h.same b hb (fun x => hn (hB b x))), h'.tape.trans h.tape, h'.os.trans h.os, h'.output.trans h.output⟩

theorem Fr.mono {w w' : World} {B C : Nat → Prop} (h : Fr w w' B) (hB : ∀ b, B b → C b) : Fr w w' C := h.trans (Fr.refl w' C) hB (fun _ x => x)

theorem Owned.mono {ρ : Ren} {heap : List (Nat × AO)} {wr wr' : List Nat} (hw : ∀ n ∈ wr, n ∈ wr') (b : Nat) : Owned ρ heap wr b → Owned ρ heap wr' b :=
  fun ⟨m, hm, r⟩ => ⟨m, hw m hm, r⟩

/-- The abstract side of a step. -/
structure Mono (h h' : Hp) : Prop where
  ob : ∀ p ∈ h.ob, p ∈ h'.ob
  nxt : h.nxt ≤ h'.nxt
  hi : h'.hi = h.hi
  wr : ∀ n ∈ h.wr, n ∈ h'.wr

theorem Mono.refl (h : Hp) : Mono h h := ⟨fun _ x => x, Nat.le_refl _, rfl, fun _ x => x⟩
theorem Mono.trans {h h' h'' : Hp} (a : Mono h h') (b : Mono h' h'') : Mono h h'' :=
  ⟨fun p x => b.ob p (a.ob p x), Nat.le_trans a.nxt b.nxt, b.hi.trans a.hi, fun n x => b.wr n (a.wr n x)⟩

/-- A step of the machine that an abstract one stands for. -/
structure Step (P : Program) (ρ : Ren) (h : Hp) (w : World) (ρ' : Ren) (h' : Hp) (w' : World) : Prop where
  le : Le ρ ρ'
  new : ∀ n l, ρ n = none → ρ' n = some l → h.nxt ≤ n ∧ n < h'.nxt
  rep : HeapRep P ρ' h'.heap w'
  fr : Fr w w' (Owned ρ h.heap h'.wr)
  own : ∀ n o l, get h'.heap n = some o → ρ' n = some l → l.cap ≠ 0 → l.blk < w.heap.size → ∃ m o' l', get h.heap m = some o' ∧ o'.ro = o.ro ∧ ρ m = some l' ∧ l'.cap ≠ 0 ∧ l'.blk = l.blk ∧ (m = n ∨ m ∈ h'.wr)

theorem HeapRep.loc {P : Program} {ρ : Ren} {heap : List (Nat × AO)} {w : World} (h : HeapRep P ρ heap w) {n : Nat} {o : AO} (e : get heap n = some o) : ∃ l, ρ n = some l := let ⟨l, hl, _⟩ := h.1 n o e; ⟨l, hl⟩

theorem Step.refl {P : Program} {ρ : Ren} {h h' : Hp} {w : World} (hr : HeapRep P ρ h.heap w) (e : h'.heap = h.heap) : Step P ρ h w ρ h' w :=
  { le := Le.refl ρ, new := fun n l a b => (by rw [a] at b; cases b), rep := (by rw [e]; exact hr), fr := Fr.refl _ _, own := fun n o l a b c _ => ⟨n, o, l, by rw [← e]; exact a, rfl, b, c, rfl, .inl rfl⟩ }

theorem Step.trans {P : Program} {ρ ρ' ρ'' : Ren} {h h' h'' : Hp} {w w' w'' : World} (a : Step P ρ h w ρ' h' w') (b : Step P ρ' h' w' ρ'' h'' w'') (ma : Mono h h') (mb : Mono h' h'') : Step P ρ h w ρ'' h'' w'' where
  le := a.le.trans b.le
  new := fun n l e e' => by
    cases h1 : ρ' n with
    | none => have := b.new n l h1 e'; exact ⟨Nat.le_trans ma.nxt this.1, this.2⟩
    | some l' => have := a.new n l' e h1; exact ⟨this.1, Nat.lt_of_lt_of_le this.2 mb.nxt⟩
  rep := b.rep
  fr := by
    refine ⟨Nat.le_trans a.fr.size b.fr.size, fun k hk hn => ?_, b.fr.tape.trans a.fr.tape, b.fr.os.trans a.fr.os, b.fr.output.trans a.fr.output⟩
    refine (b.fr.same k (Nat.lt_of_lt_of_le hk a.fr.size) ?_).trans (a.fr.same k hk (fun x => hn (Owned.mono mb.wr k x)))
    rintro ⟨m, hm, o, l, h1, hro, h2, h3, rfl⟩
    obtain ⟨m', o', l', g1, gro, g2, g3, g4, g5⟩ := a.own m o l h1 h2 h3 hk
    refine hn ⟨m', ?_, o', l', g1, gro.trans hro, g2, g3, g4⟩
    rcases g5 with rfl | g5
    · exact hm
    · exact mb.wr _ g5
  own := fun n o l h1 h2 h3 h4 => by
    obtain ⟨m, o', l', g1, gro, g2, g3, g4, g5⟩ := b.own n o l h1 h2 h3 (Nat.lt_of_lt_of_le h4 a.fr.size)
    obtain ⟨m', o'', l'', k1, kro, k2, k3, k4, k5⟩ := a.own m o' l' g1 g2 g3 (by rw [g4]; exact h4)
    refine ⟨m', o'', l'', k1, kro.trans gro, k2, k3, k4.trans g4, ?_⟩
    rcases k5 with rfl | k5
    · exact g5
    · exact .inr (mb.wr _ k5)

theorem Step.fresh {P : Program} {ρ ρ' : Ren} {h h' : Hp} {w w' : World} (a : Step P ρ h w ρ' h' w') (m : Mono h h') (f : Fresh ρ h.nxt h.hi) : Fresh ρ' h'.nxt h'.hi := by
  intro n h1 h2
  rw [m.hi] at h2
  cases e : ρ' n with
  | none => rfl
  | some l =>
    have := a.new n l (f n (Nat.le_trans m.nxt h1) h2) e
    omega

/-- Objects stand as they did where their blocks do. -/
theorem ObjRep.keep {P : Program} {ρ ρ' : Ren} {w w' : World} {l : Loc} {o : AO} (h : ObjRep P ρ w l o) (hle : Le ρ ρ') (hs : l.cap ≠ 0 → w'.heap[l.blk]? = w.heap[l.blk]?) : ObjRep P ρ' w' l o := by
  cases o with
  | cells wd cs =>
    obtain ⟨h0, h1, h2, c, t, fr, hb, hf, hc, hc2, hv⟩ := h
    exact ⟨h0, h1, h2, c, t, fr, (hs h1).trans hb, hf, hc, hc2, fun j v hj => let ⟨x, hx, r⟩ := hv j v hj; ⟨x, hx, r.mono hle⟩⟩
  | arr wd sh ro len f =>
    obtain ⟨h1, h2, h3, h4, h5⟩ := h
    refine ⟨h1, h2, h3, h4, fun hc => ?_⟩
    obtain ⟨c, t, fr, hb, hf, hc2, hv⟩ := h5 hc
    exact ⟨c, t, fr, (hs hc).trans hb, hf, hc2, fun i hi j k hj => let ⟨a, x, hx, r⟩ := hv i hi j k hj; ⟨a, x, hx, den_mono hle _ _ r⟩⟩
  | map t f =>
    obtain ⟨h0, h1, ks, agg, vk, hk, es, clock, hb, hm⟩ := h
    exact ⟨h0, h1, ks, agg, vk, hk, es, clock, (hs h1).trans hb, hm⟩
  | mapP t f n k =>
    obtain ⟨h0, h1, ks, agg, vk, hk, hw, es, clock, hb, hbo, hm, s, e, hs', he⟩ := h
    exact ⟨h0, h1, ks, agg, vk, hk, hw, es, clock, (hs h1).trans hb, hbo, hm, s, e, hle _ _ hs', he⟩

theorem ObjRep.lt {P : Program} {ρ : Ren} {w : World} {l : Loc} {o : AO} (h : ObjRep P ρ w l o) (hc : l.cap ≠ 0) : l.blk < w.heap.size := by
  cases o with
  | cells wd cs => obtain ⟨_, _, _, c, t, fr, hb, _⟩ := h; exact (Array.getElem?_eq_some_iff.1 hb).1
  | arr wd sh ro len f => obtain ⟨_, _, _, _, h5⟩ := h; obtain ⟨c, t, fr, hb, _⟩ := h5 hc; exact (Array.getElem?_eq_some_iff.1 hb).1
  | map t f => obtain ⟨_, _, ks, agg, vk, hk, es, clock, hb, hm⟩ := h; exact (Array.getElem?_eq_some_iff.1 hb).1
  | mapP t f n k => obtain ⟨_, _, ks, agg, vk, hk, hw, es, clock, hb, hm⟩ := h; exact (Array.getElem?_eq_some_iff.1 hb).1

end Go.Ev
