/-
  A loop by an invariant over a family: rows that hold pointers to blocks of their own. One round looks at one member alone.
-/
import Derived.Test.YtmlfmmnnbdlabaaEvLoop
import Derived.Test.YtmlfmmnnbdlabaaEvLocal
set_option linter.unusedSimpArgs false
set_option linter.unusedVariables false
namespace Go.Ev

/-- Names of families lie from here on. -/
def fam0 : Nat := 6703903964971298549787012499102923063739682910296196688861780721860882015036773488400937149083451713845015929093243025426876941405973284973216824503042048

/-- Names below q, moved. -/
def sft (q b n : Nat) : Option Nat := match Nat.blt n q with
  | true => some (b + n)
  | false => none

def mvV (q b : Nat) (v : AV) : AV := match renV (sft q b) v with
  | some v => v
  | none => .top
def mvO (q b : Nat) (o : AO) : AO := match renO (sft q b) o with
  | some o => o
  | none => .cells 0 []

/-- A member: its row's cells, its own blocks; names 0, 1, .. are its own. -/
structure Mb where
  cells : List AV
  objs : List (Nat × AO)

def named (q b : Nat) : List (Nat × AO) → List (Nat × AO)
  | [] => []
  | (c, o) :: r => (b + c, mvO q b o) :: named q b r

def mrow (q b : Nat) (m : Mb) (c : Nat) : AV := match nth m.cells c with
  | some v => mvV q b v
  | none => .top
def grow (b0 q : Nat) (M : Nat → Mb) (i c : Nat) : AV := mrow q (b0 + q * i) (M i) c
def lrow (b0 q : Nat) (M : Nat → Mb) (j i c : Nat) : AV := if i = j then mrow q 900 (M j) c else mrow q (b0 + q * i) (M i) c
def famL (b0 q : Nat) (M : Nat → Mb) : Nat → List (Nat × AO)
  | 0 => []
  | n + 1 => named q (b0 + q * n) (M n).objs ++ famL b0 q M n

structure Fam where
  b0 : Nat
  q : Nat
  wd : Nat
  sh : List CK
  R : Nat

/-- A state with a family. -/
structure FSt where
  tmps : List AV
  pre : List (Nat × AO)
  n : Nat
  M : Nat → Mb
  wr : List Nat

def okV (q : Nat) (v : AV) : Prop := ∀ b, ∃ v', renV (sft q b) v = some v'
def okO (q : Nat) (o : AO) : Prop := ∀ b, ∃ o', renO (sft q b) o = some o'
def kOk : CK → AV → Prop
  | .int k, v => ∃ n, v = .sym k n
  | .bool, v => ∃ b, v = .symb b
  | .val, v => v.oneCell = true

structure MbOk (F : Fam) (m : Mb) : Prop where
  cells : ∀ (c : Nat) k, F.sh[c]? = some k → ∃ v, nth m.cells c = some v ∧ okV F.q v ∧ kOk k v
  objs : ∀ c o, get m.objs c = some o → c < F.q ∧ okO F.q o

/-- Names that a round leaves as they are. -/
def idf (n : Nat) : Option Nat := match Nat.blt n 900 with
  | true => some n
  | false => match Nat.ble (gnm 0) n with
    | true => some n
    | false => none

def cleanO (o : AO) : Bool := match renO idf o with
  | some _ => true
  | none => false
def cleanH (R : Nat) : List (Nat × AO) → Bool
  | [] => true
  | (n, o) :: r => match idf n, Nat.beq n R, cleanO o with
    | some _, false, true => cleanH R r
    | _, _, _ => false
def cleanT (l : List AV) : Bool := match renL idf l with
  | some _ => true
  | none => false

structure FOk (F : Fam) (x : FSt) : Prop where
  pre : cleanH F.R x.pre = true
  tm : cleanT x.tmps = true
  mb : ∀ i, i < x.n → MbOk F (x.M i)

structure FamOk (F : Fam) : Prop where
  lo : 1000 ≤ F.b0
  hi : F.b0 + 100000200 < gnm 0
  q : F.q ≤ 100
  R : F.R < 900
  sh : F.sh.length = F.wd

def FSt.heap (F : Fam) (x : FSt) : List (Nat × AO) := x.pre ++ (F.R, .arr F.wd F.sh false x.n (grow F.b0 F.q x.M)) :: famL F.b0 F.q x.M x.n

/-- The round's own view: member j's blocks by names from 900 on. -/
def locH (F : Fam) (wth : Bool) (objs pre : List (Nat × AO)) (n : Nat) (f : Nat → Nat → AV) : List (Nat × AO) :=
  (match wth with
   | true => named F.q 900 objs
   | false => []) ++ (F.R, .arr F.wd F.sh false n f) :: pre

def locSt (F : Fam) (x : FSt) (wth : Bool) (mb : Mb) (j : Nat) (hints : List Hint) : St :=
  ⟨x.tmps, ⟨locH F wth mb.objs x.pre x.n (lrow F.b0 F.q x.M j), 1000, F.b0, hints, [], x.wr, false⟩⟩

/-! ### lists -/
theorem get_append {α : Type} : ∀ (a b : List (Nat × α)) (n : Nat), get (a ++ b) n = match get a n with
    | some x => some x
    | none => get b n
  | [], b, n => rfl
  | (m, x) :: r, b, n => by
    simp only [List.cons_append, get]
    cases h : Nat.beq m n with
    | true => rfl
    | false => exact get_append r b n

theorem get_append_some {α : Type} {a b : List (Nat × α)} {n : Nat} {x : α} (h : get (a ++ b) n = some x) : get a n = some x ∨ (get a n = none ∧ get b n = some x) := by
  rw [get_append] at h
  cases e : get a n with
  | some y => rw [e] at h; exact .inl h
  | none => rw [e] at h; exact .inr ⟨rfl, h⟩

theorem get_cons {α : Type} {m n : Nat} {x y : α} {r : List (Nat × α)} (h : get ((m, x) :: r) n = some y) : (n = m ∧ y = x) ∨ (n ≠ m ∧ get r n = some y) := by
  simp only [get] at h
  split at h
  · rename_i e; cases h; exact .inl ⟨(Nat.eq_of_beq_eq_true e).symm, rfl⟩
  · rename_i e; exact .inr ⟨fun q => by subst q; simp at e, h⟩

theorem named_inv {q b : Nat} : ∀ (l : List (Nat × AO)) (g : Nat) o, get (named q b l) g = some o → ∃ c o0, g = b + c ∧ get l c = some o0 ∧ o = mvO q b o0
  | [], g, o, h => by simp [named, get] at h
  | (c, o0) :: r, g, o, h => by
    simp only [named] at h
    rcases get_cons h with ⟨rfl, rfl⟩ | ⟨hn, h⟩
    · exact ⟨c, o0, rfl, by simp [get], rfl⟩
    · obtain ⟨c', o', rfl, h2, rfl⟩ := named_inv r g o h
      refine ⟨c', o', rfl, ?_, rfl⟩
      simp only [get]
      have : Nat.beq c c' = false := by
        cases e : Nat.beq c c' with
        | false => rfl
        | true => have := Nat.eq_of_beq_eq_true e; subst this; exact (hn rfl).elim
      rw [this]; exact h2

theorem named_eq {q b : Nat} : ∀ (l : List (Nat × AO)) (c : Nat), get (named q b l) (b + c) = (get l c).map (mvO q b)
  | [], c => rfl
  | (m, o0) :: r, c => by
    simp only [named, get]
    have : Nat.beq (b + m) (b + c) = Nat.beq m c := by
      cases e : Nat.beq m c with
      | true => have := Nat.eq_of_beq_eq_true e; subst this; simp
      | false =>
        cases e2 : Nat.beq (b + m) (b + c) with
        | false => rfl
        | true => have := Nat.eq_of_beq_eq_true e2; have : m = c := by omega
                  subst this; simp at e
    rw [this]
    cases e : Nat.beq m c with
    | true => rfl
    | false => exact named_eq r c

theorem fam_inv {b0 q : Nat} {M : Nat → Mb} : ∀ (n g : Nat) o, get (famL b0 q M n) g = some o → ∃ k c o0, k < n ∧ g = b0 + q * k + c ∧ get (M k).objs c = some o0 ∧ o = mvO q (b0 + q * k) o0
  | 0, g, o, h => by simp [famL, get] at h
  | n + 1, g, o, h => by
    simp only [famL] at h
    rcases get_append_some h with h | ⟨_, h⟩
    · obtain ⟨c, o0, h1, h2, h3⟩ := named_inv _ _ _ h
      exact ⟨n, c, o0, by omega, h1, h2, h3⟩
    · obtain ⟨k, c, o0, h0, h1⟩ := fam_inv n g o h
      exact ⟨k, c, o0, by omega, h1⟩

theorem fam_apart {b0 q k k' c c' : Nat} (hc : c < q) (hc' : c' < q) (h : b0 + q * k + c = b0 + q * k' + c') : k = k' ∧ c = c' := by
  have e : q * k + c = q * k' + c' := by omega
  rcases Nat.lt_trichotomy k k' with h1 | h1 | h1
  · have := Nat.mul_le_mul_left q (show k + 1 ≤ k' by omega)
    rw [Nat.mul_succ] at this; omega
  · subst h1; exact ⟨rfl, by omega⟩
  · have := Nat.mul_le_mul_left q (show k' + 1 ≤ k by omega)
    rw [Nat.mul_succ] at this; omega

theorem fam_eq {b0 q : Nat} {M : Nat → Mb} : ∀ (n : Nat), (∀ i, i < n → ∀ c o, get (M i).objs c = some o → c < q) → ∀ k c, k < n → c < q → get (famL b0 q M n) (b0 + q * k + c) = (get (M k).objs c).map (mvO q (b0 + q * k))
  | 0, _, k, c, h, _ => by omega
  | n + 1, hq, k, c, hk, hc => by
    simp only [famL]
    rw [get_append]
    by_cases e : k = n
    · subst e
      rw [named_eq]
      cases h : get (M k).objs c with
      | some o => rfl
      | none =>
        simp only [Option.map_none]
        cases h2 : get (famL b0 q M k) (b0 + q * k + c) with
        | none => rfl
        | some o =>
          obtain ⟨k', c', o0, h0, h1, h3, _⟩ := fam_inv _ _ _ h2
          have := fam_apart hc (hq k' (by omega) c' o0 h3) h1
          omega
    · have hno : get (named q (b0 + q * n) (M n).objs) (b0 + q * k + c) = none := by
        cases h2 : get (named q (b0 + q * n) (M n).objs) (b0 + q * k + c) with
        | none => rfl
        | some o =>
          obtain ⟨c', o0, h1, h3, _⟩ := named_inv _ _ _ h2
          have := fam_apart hc (hq n (by omega) c' o0 h3) h1
          omega
      rw [hno]
      exact fam_eq n (fun i hi => hq i (by omega)) k c (by omega) hc

/-! ### what moved values and objects stand for -/
theorem renV_top {f : Nat → Option Nat} : ∀ v : AV, renV f v = some .top → v = .top := by
  intro v h
  cases v <;> simp only [renV] at h <;> first | rfl | cases h | (split at h <;> cases h)

theorem mv_den {q b b' : Nat} {ρ ρ' : Ren} (h : ∀ c, c < q → ρ' (b' + c) = ρ (b + c)) {v : AV} (hv : okV q v) : den ρ' (mvV q b' v) = den ρ (mvV q b v) := by
  obtain ⟨v1, h1⟩ := hv b
  obtain ⟨v2, h2⟩ := hv b'
  unfold mvV
  rw [h1, h2]
  simp only
  let ρ0 : Ren := fun n => if n < q then ρ (b + n) else none
  have H1 : ∀ n k, sft q b n = some k → ρ k = ρ0 n := by
    intro n k e
    unfold sft at e
    split at e
    · rename_i hb; cases e
      have : n < q := by simpa [Nat.blt_eq] using hb
      simp [ρ0, this]
    · cases e
  have H2 : ∀ n k, sft q b' n = some k → ρ' k = ρ0 n := by
    intro n k e
    unfold sft at e
    split at e
    · rename_i hb; cases e
      have : n < q := by simpa [Nat.blt_eq] using hb
      simp [ρ0, this, h n this]
    · cases e
  rw [renV_den H1 v v1 h1, renV_den H2 v v2 h2]

theorem renO_rev {P : Program} {f : Nat → Option Nat} {ρ ρ' : Ren} {w : World} {l : Loc} (H : ∀ n k, f n = some k → ρ' k = ρ n) {o o' : AO} (e : renO f o = some o') (h : ObjRep P ρ' w l o') : ObjRep P ρ w l o := by
  cases o with
  | cells wd cs =>
    simp only [renO] at e
    split at e
    · rename_i l1 h1
      cases e
      obtain ⟨h0, h1', h2, c, t, fr, hb, hf, hc, hc2, hv⟩ := h
      obtain ⟨q1, q2⟩ := renL_get cs l1 h1
      refine ⟨h0, h1', h2, c, t, fr, hb, hf, by omega, hc2, fun j v hj => ?_⟩
      have hjl : j < l1.length := by rw [q1]; exact (List.getElem?_eq_some_iff.1 hj).1
      obtain ⟨u, hu⟩ : ∃ u, l1[j]? = some u := ⟨_, List.getElem?_eq_getElem hjl⟩
      obtain ⟨v0, hv0, hr⟩ := q2 j u hu
      rw [hj] at hv0; cases hv0
      obtain ⟨x, hx, hrx⟩ := hv j u hu
      refine ⟨x, hx, ?_⟩
      rcases hrx with rfl | hrx
      · exact .inl (renV_top v hr)
      · exact .inr (by rw [← renV_den H v u hr]; exact hrx)
    · cases e
  | arr wd sh ro len g =>
    simp only [renO] at e
    split at e
    · rename_i hp
      cases e
      obtain ⟨h1, h2, h3, h4, h5⟩ := h
      refine ⟨h1, h2, h3, h4, fun hc => ?_⟩
      obtain ⟨c, t, fr, hb, hf, hc2, hv⟩ := h5 hc
      refine ⟨c, t, fr, hb, hf, hc2, fun i hi j k hj => ?_⟩
      obtain ⟨kk, x, hx, hd⟩ := hv i hi j k hj
      refine ⟨kk, x, hx, ?_⟩
      rcases plainSh_get sh hp j k hj with ⟨q, rfl⟩ | rfl
      · obtain ⟨n, hn | hn⟩ := kk <;> rw [hn] at hd ⊢ <;> simpa [den] using hd
      · obtain ⟨n, hn | hn⟩ := kk <;> rw [hn] at hd ⊢ <;> simpa [den] using hd
    · cases e
  | map t m =>
    simp only [renO] at e
    cases e
    exact h
  | mapP t m n k => simp [renO] at e

theorem renO_ro {f : Nat → Option Nat} {o o' : AO} (e : renO f o = some o') : o'.ro = o.ro := by
  cases o <;> simp only [renO] at e
  · split at e
    · cases e; rfl
    · cases e
  · split at e
    · cases e; rfl
    · cases e
  · cases e; rfl
  · cases e

theorem mvO_ro {q b : Nat} {o : AO} (ho : okO q o) : (mvO q b o).ro = o.ro := by
  obtain ⟨o1, h1⟩ := ho b
  unfold mvO
  rw [h1]
  exact renO_ro h1

theorem mvO_rep {P : Program} {q b b' : Nat} {ρ ρ' : Ren} {w : World} {l : Loc} (h : ∀ c, c < q → ρ' (b' + c) = ρ (b + c)) {o : AO} (ho : okO q o) (hr : ObjRep P ρ w l (mvO q b o)) : ObjRep P ρ' w l (mvO q b' o) := by
  obtain ⟨o1, h1⟩ := ho b
  obtain ⟨o2, h2⟩ := ho b'
  unfold mvO at hr ⊢
  rw [h1] at hr
  rw [h2]
  let ρ0 : Ren := fun n => if n < q then ρ (b + n) else none
  have H1 : ∀ n k, sft q b n = some k → ρ k = ρ0 n := by
    intro n k e
    unfold sft at e
    split at e
    · rename_i hb; cases e
      have : n < q := by simpa [Nat.blt_eq] using hb
      simp [ρ0, this]
    · cases e
  have H2 : ∀ n k, sft q b' n = some k → ρ' k = ρ0 n := by
    intro n k e
    unfold sft at e
    split at e
    · rename_i hb; cases e
      have : n < q := by simpa [Nat.blt_eq] using hb
      simp [ρ0, this, h n this]
    · cases e
  exact (renO_rep H2 h2 (renO_rev H1 h1 hr)).1

/-! ### names that stay -/
theorem idf_spec {n k : Nat} (h : idf n = some k) : k = n ∧ (n < 900 ∨ gnm 0 ≤ n) := by
  unfold idf at h
  split at h
  · rename_i hb; cases h; exact ⟨rfl, .inl (by simpa [Nat.blt_eq] using hb)⟩
  · split at h
    · rename_i hb; cases h; exact ⟨rfl, .inr (Nat.le_of_ble_eq_true hb)⟩
    · cases h

mutual
theorem renV_id {f : Nat → Option Nat} (H : ∀ n k, f n = some k → k = n) : ∀ (v v' : AV), renV f v = some v' → v' = v
  | .top, v', e => by simp [renV] at e; exact e.symm
  | .int .., v', e => by simp [renV] at e; exact e.symm
  | .sym .., v', e => by simp [renV] at e; exact e.symm
  | .bool .., v', e => by simp [renV] at e; exact e.symm
  | .symb .., v', e => by simp [renV] at e; exact e.symm
  | .nilp, v', e => by simp [renV] at e; exact e.symm
  | .ptr b i j, v', e => by
    simp only [renV] at e
    split at e
    · rename_i k hk; cases e; rw [H _ _ hk]
    · cases e
  | .nils, v', e => by simp [renV] at e; exact e.symm
  | .xs wd b o l c, v', e => by
    simp only [renV] at e
    split at e
    · rename_i k hk; cases e; rw [H _ _ hk]
    · cases e
  | .ss wd b o l c, v', e => by
    simp only [renV] at e
    split at e
    · rename_i k hk; cases e; rw [H _ _ hk]
    · cases e
  | .nilm, v', e => by simp [renV] at e; exact e.symm
  | .map b, v', e => by
    simp only [renV] at e
    split at e
    · rename_i k hk; cases e; rw [H _ _ hk]
    · cases e
  | .nilf, v', e => by simp [renV] at e; exact e.symm
  | .func g l m, v', e => by
    simp only [renV] at e
    split at e
    · rename_i l1 m1 h1 h2; cases e; rw [renL_id H l l1 h1, renL_id H m m1 h2]
    · cases e
  | .nili, v', e => by simp [renV] at e; exact e.symm
  | .iface t v, v', e => by
    simp only [renV] at e
    split at e
    · rename_i v1 h1; cases e; rw [renV_id H v v1 h1]
    · cases e
  | .agg l, v', e => by
    simp only [renV] at e
    split at e
    · rename_i l1 h1; cases e; rw [renL_id H l l1 h1]
    · cases e
  | .tup l, v', e => by
    simp only [renV] at e
    split at e
    · rename_i l1 h1; cases e; rw [renL_id H l l1 h1]
    · cases e
  | .stamp n, v', e => by simp [renV] at e
  | .raw v, v', e => by simp [renV] at e; exact e.symm
theorem renL_id {f : Nat → Option Nat} (H : ∀ n k, f n = some k → k = n) : ∀ (v v' : List AV), renL f v = some v' → v' = v
  | [], v', e => by simp only [renL, Option.some.injEq] at e; exact e.symm
  | v :: r, v', e => by
    simp only [renL] at e
    split at e
    · rename_i v1 r1 h1 h2; cases e; rw [renV_id H v v1 h1, renL_id H r r1 h2]
    · cases e
end

theorem renO_id {f : Nat → Option Nat} (H : ∀ n k, f n = some k → k = n) {o o' : AO} (e : renO f o = some o') : o' = o := by
  cases o <;> simp only [renO] at e
  · split at e
    · rename_i l1 h1; cases e; rw [renL_id H _ _ h1]
    · cases e
  · split at e
    · cases e; rfl
    · cases e
  · cases e; rfl
  · cases e

/-- Renamings that agree where a round changes nothing. -/
def Agree (ρ ρ' : Ren) : Prop := ∀ n, (n < 900 ∨ gnm 0 ≤ n) → ρ' n = ρ n

theorem Agree.idf {ρ ρ' : Ren} (h : Agree ρ ρ') : ∀ n k, Go.Ev.idf n = some k → ρ' k = ρ n := fun n k e => by
  obtain ⟨rfl, hn⟩ := idf_spec e
  exact h _ hn

theorem clean_rep {P : Program} {ρ ρ' : Ren} (h : Agree ρ ρ') {w : World} {l : Loc} {o : AO} (hc : cleanO o = true) (hr : ObjRep P ρ w l o) : ObjRep P ρ' w l o := by
  unfold cleanO at hc
  split at hc
  · rename_i o' e
    have := renO_id (fun n k e => (idf_spec e).1) e
    subst this
    exact (renO_rep h.idf e hr).1
  · cases hc

theorem cleanL_rel {ρ ρ' : Ren} (h : Agree ρ ρ') : ∀ (l l' : List AV), renL Go.Ev.idf l = some l' → ∀ (k : Nat) v, l[k]? = some v → ∀ x, relS ρ v x → relS ρ' v x
  | [], _, _, k, v, hk, _ => by simp at hk
  | a :: r, l', e, k, v, hk, x => by
    simp only [renL] at e
    split at e
    · rename_i v1 r1 h1 h2
      cases k with
      | zero =>
        simp at hk; subst hk
        have e1 := renV_id (fun n k e => (idf_spec e).1) _ _ h1
        subst e1
        exact fun hr => renV_rel h.idf h1 hr
      | succ k => exact cleanL_rel h r r1 h2 k v (by simpa using hk) x
    · cases e

theorem clean_relL {ρ ρ' : Ren} (h : Agree ρ ρ') {l : List AV} (hc : cleanT l = true) {xs : List Value} (hr : RelL ρ l xs) : RelL ρ' l xs := by
  unfold cleanT at hc
  split at hc
  · rename_i l' e
    exact ⟨hr.1, fun k v hk => let ⟨x, hx, r⟩ := hr.2 k v hk; ⟨x, hx, cleanL_rel h l l' e k v hk x r⟩⟩
  · cases hc

theorem cleanH_get {R : Nat} : ∀ (l : List (Nat × AO)), cleanH R l = true → ∀ n o, get l n = some o → (n < 900 ∨ gnm 0 ≤ n) ∧ n ≠ R ∧ cleanO o = true
  | [], _, n, o, h => by simp [get] at h
  | (m, x) :: r, hc, n, o, h => by
    simp only [cleanH] at hc
    split at hc
    · rename_i a b c
      rcases get_cons h with ⟨rfl, rfl⟩ | ⟨_, h⟩
      · exact ⟨(idf_spec a).2, fun e => by subst e; simp at b, c⟩
      · exact cleanH_get r hc n o h
    · cases hc
end Go.Ev
