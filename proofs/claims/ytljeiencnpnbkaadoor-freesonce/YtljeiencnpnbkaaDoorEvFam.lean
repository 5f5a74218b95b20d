/-
  EvFam and what follows it.
-/
import Derived.Test.YtljeiencnpnbkaaDoorEvLoc2
/-
  A loop by an invariant over a family: rows that hold pointers to blocks of their own. One round looks at one member alone.
-/
set_option linter.unusedSimpArgs false
set_option linter.unusedVariables false
namespace Go.Ev

/-- Names of families lie from here on. -/
def fam0 : Nat := 6703903964971298549787012499102923063739682910296196688861780721860882015036773488400937149083451713845015929093243025426876941405973284973216824503042048

/-- Names below q, moved. -/
def sft (q b n : Nat) : Option Nat := match Nat.blt n q with
  | true => some (b + n)
  | false => none

def mvV (q b : Nat) (v : AV) : AV := match renV (sft q b) v with
  | some v => v
  | none => .top
def mvO (q b : Nat) (o : AO) : AO := match renO (sft q b) o with
  | some o => o
  | none => .cells 0 []

/-- A member: its row's cells, its own blocks; names 0, 1, .. are its own. -/
structure Mb where
  cells : List AV
  objs : List (Nat × AO)

def named (q b : Nat) : List (Nat × AO) → List (Nat × AO)
  | [] => []
  | (c, o) :: r => (b + c, mvO q b o) :: named q b r

def mrow (q b : Nat) (m : Mb) (c : Nat) : AV := match nth m.cells c with
  | some v => mvV q b v
  | none => .top
def grow (b0 q : Nat) (M : Nat → Mb) (i c : Nat) : AV := mrow q (b0 + q * i) (M i) c
def lrow (b0 q : Nat) (M : Nat → Mb) (j i c : Nat) : AV := if i = j then mrow q 900 (M j) c else mrow q (b0 + q * i) (M i) c
def famL (b0 q : Nat) (M : Nat → Mb) : Nat → List (Nat × AO)
  | 0 => []
  | n + 1 => named q (b0 + q * n) (M n).objs ++ famL b0 q M n

structure Fam where
  b0 : Nat
  q : Nat
  wd : Nat
  sh : List CK
  R : Nat

/-- A state with a family. -/
structure FSt where
  tmps : List AV
  pre : List (Nat × AO)
  n : Nat
  M : Nat → Mb
  wr : List Nat

def okV (q : Nat) (v : AV) : Prop := ∀ b, ∃ v', renV (sft q b) v = some v'
def okO (q : Nat) (o : AO) : Prop := ∀ b, ∃ o', renO (sft q b) o = some o'
def kOk : CK → AV → Prop
  | .int k, v => ∃ n, v = .sym k n
  | .bool, v => ∃ b, v = .symb b
  | .val, v => v.oneCell = true

structure MbOk (F : Fam) (m : Mb) : Prop where
  cells : ∀ (c : Nat) k, F.sh[c]? = some k → ∃ v, nth m.cells c = some v ∧ okV F.q v ∧ kOk k v
  objs : ∀ c o, get m.objs c = some o → c < F.q ∧ okO F.q o

/-- Names that a round leaves as they are. -/
def idf (n : Nat) : Option Nat := match Nat.blt n 900 with
  | true => some n
  | false => match Nat.ble (gnm 0) n with
    | true => some n
    | false => none

def cleanO (o : AO) : Bool := match renO idf o with
  | some _ => true
  | none => false
def cleanH (R : Nat) : List (Nat × AO) → Bool
  | [] => true
  | (n, o) :: r => match idf n, Nat.beq n R, cleanO o with
    | some _, false, true => cleanH R r
    | _, _, _ => false
def cleanT (l : List AV) : Bool := match renL idf l with
  | some _ => true
  | none => false

structure FOk (F : Fam) (x : FSt) : Prop where
  pre : cleanH F.R x.pre = true
  tm : cleanT x.tmps = true
  mb : ∀ i, i < x.n → MbOk F (x.M i)

structure FamOk (F : Fam) : Prop where
  lo : 1000 ≤ F.b0
  hi : F.b0 + 100000200 < gnm 0
  q : F.q ≤ 100
  R : F.R < 900
  sh : F.sh.length = F.wd

def FSt.heap (F : Fam) (x : FSt) : List (Nat × AO) := x.pre ++ (F.R, .arr F.wd F.sh false x.n (grow F.b0 F.q x.M)) :: famL F.b0 F.q x.M x.n

/-- The round's own view: member j's blocks by names from 900 on. -/
def locH (F : Fam) (wth : Bool) (objs pre : List (Nat × AO)) (n : Nat) (f : Nat → Nat → AV) : List (Nat × AO) :=
  (match wth with
   | true => named F.q 900 objs
   | false => []) ++ (F.R, .arr F.wd F.sh false n f) :: pre

def locSt (F : Fam) (x : FSt) (wth : Bool) (mb : Mb) (j : Nat) (hints : List Hint) : St :=
  ⟨x.tmps, ⟨locH F wth mb.objs x.pre x.n (lrow F.b0 F.q x.M j), 1000, F.b0, hints, [], x.wr, false⟩⟩

/-! ### lists -/
theorem get_append {α : Type} : ∀ (a b : List (Nat × α)) (n : Nat), get (a ++ b) n = match get a n with
    | some x => some x
    | none => get b n
  | [], b, n => rfl
  | (m, x) :: r, b, n => by
    simp only [List.cons_append, get]
    cases h : Nat.beq m n with
    | true => rfl
    | false => exact get_append r b n

theorem get_append_some {α : Type} {a b : List (Nat × α)} {n : Nat} {x : α} (h : get (a ++ b) n = some x) : get a n = some x ∨ (get a n = none ∧ get b n = some x) := by
  rw [get_append] at h
  cases e : get a n with
  | some y => rw [e] at h; exact .inl h
  | none => rw [e] at h; exact .inr ⟨rfl, h⟩

theorem get_cons {α : Type} {m n : Nat} {x y : α} {r : List (Nat × α)} (h : get ((m, x) :: r) n = some y) : (n = m ∧ y = x) ∨ (n ≠ m ∧ get r n = some y) := by
  simp only [get] at h
  split at h
  · rename_i e; cases h; exact .inl ⟨(Nat.eq_of_beq_eq_true e).symm, rfl⟩
  · rename_i e; exact .inr ⟨fun q => by subst q; simp at e, h⟩

theorem named_inv {q b : Nat} : ∀ (l : List (Nat × AO)) (g : Nat) o, get (named q b l) g = some o → ∃ c o0, g = b + c ∧ get l c = some o0 ∧ o = mvO q b o0
  | [], g, o, h => by simp [named, get] at h
  | (c, o0) :: r, g, o, h => by
    simp only [named] at h
    rcases get_cons h with ⟨rfl, rfl⟩ | ⟨hn, h⟩
    · exact ⟨c, o0, rfl, by simp [get], rfl⟩
    · obtain ⟨c', o', rfl, h2, rfl⟩ := named_inv r g o h
      refine ⟨c', o', rfl, ?_, rfl⟩
      simp only [get]
      have : Nat.beq c c' = false := by
        cases e : Nat.beq c c' with
        | false => rfl
        | true => have := Nat.eq_of_beq_eq_true e; subst this; exact (hn rfl).elim
      rw [this]; exact h2

theorem named_eq {q b : Nat} : ∀ (l : List (Nat × AO)) (c : Nat), get (named q b l) (b + c) = (get l c).map (mvO q b)
  | [], c => rfl
  | (m, o0) :: r, c => by
    simp only [named, get]
    have : Nat.beq (b + m) (b + c) = Nat.beq m c := by
      cases e : Nat.beq m c with
      | true => have := Nat.eq_of_beq_eq_true e; subst this; simp
      | false =>
        cases e2 : Nat.beq (b + m) (b + c) with
        | false => rfl
        | true => have := Nat.eq_of_beq_eq_true e2; have : m = c := by omega
                  subst this; simp at e
    rw [this]
    cases e : Nat.beq m c with
    | true => rfl
    | false => exact named_eq r c

theorem fam_inv {b0 q : Nat} {M : Nat → Mb} : ∀ (n g : Nat) o, get (famL b0 q M n) g = some o → ∃ k c o0, k < n ∧ g = b0 + q * k + c ∧ get (M k).objs c = some o0 ∧ o = mvO q (b0 + q * k) o0
  | 0, g, o, h => by simp [famL, get] at h
  | n + 1, g, o, h => by
    simp only [famL] at h
    rcases get_append_some h with h | ⟨_, h⟩
    · obtain ⟨c, o0, h1, h2, h3⟩ := named_inv _ _ _ h
      exact ⟨n, c, o0, by omega, h1, h2, h3⟩
    · obtain ⟨k, c, o0, h0, h1⟩ := fam_inv n g o h
      exact ⟨k, c, o0, by omega, h1⟩

theorem fam_apart {b0 q k k' c c' : Nat} (hc : c < q) (hc' : c' < q) (h : b0 + q * k + c = b0 + q * k' + c') : k = k' ∧ c = c' := by
  have e : q * k + c = q * k' + c' := by omega
  rcases Nat.lt_trichotomy k k' with h1 | h1 | h1
  · have := Nat.mul_le_mul_left q (show k + 1 ≤ k' by omega)
    rw [Nat.mul_succ] at this; omega
  · subst h1; exact ⟨rfl, by omega⟩
  · have := Nat.mul_le_mul_left q (show k' + 1 ≤ k by omega)
    rw [Nat.mul_succ] at this; omega

theorem fam_eq {b0 q : Nat} {M : Nat → Mb} : ∀ (n : Nat), (∀ i, i < n → ∀ c o, get (M i).objs c = some o → c < q) → ∀ k c, k < n → c < q → get (famL b0 q M n) (b0 + q * k + c) = (get (M k).objs c).map (mvO q (b0 + q * k))
  | 0, _, k, c, h, _ => by omega
  | n + 1, hq, k, c, hk, hc => by
    simp only [famL]
    rw [get_append]
    by_cases e : k = n
    · subst e
      rw [named_eq]
      cases h : get (M k).objs c with
      | some o => rfl
      | none =>
        simp only [Option.map_none]
        cases h2 : get (famL b0 q M k) (b0 + q * k + c) with
        | none => rfl
        | some o =>
          obtain ⟨k', c', o0, h0, h1, h3, _⟩ := fam_inv _ _ _ h2
          have := fam_apart hc (hq k' (by omega) c' o0 h3) h1
          omega
    · have hno : get (named q (b0 + q * n) (M n).objs) (b0 + q * k + c) = none := by
        cases h2 : get (named q (b0 + q * n) (M n).objs) (b0 + q * k + c) with
        | none => rfl
        | some o =>
          obtain ⟨c', o0, h1, h3, _⟩ := named_inv _ _ _ h2
          have := fam_apart hc (hq n (by omega) c' o0 h3) h1
          omega
      rw [hno]
      exact fam_eq n (fun i hi => hq i (by omega)) k c (by omega) hc

/-! ### what moved values and objects stand for -/
theorem renV_top {f : Nat → Option Nat} : ∀ v : AV, renV f v = some .top → v = .top := by
  intro v h
  cases v <;> simp only [renV] at h <;> first | rfl | cases h | (split at h <;> cases h)

theorem mv_den {q b b' : Nat} {ρ ρ' : Ren} (h : ∀ c, c < q → ρ' (b' + c) = ρ (b + c)) {v : AV} (hv : okV q v) : den ρ' (mvV q b' v) = den ρ (mvV q b v) := by
  obtain ⟨v1, h1⟩ := hv b
  obtain ⟨v2, h2⟩ := hv b'
  unfold mvV
  rw [h1, h2]
  simp only
  let ρ0 : Ren := fun n => if n < q then ρ (b + n) else none
  have H1 : ∀ n k, sft q b n = some k → ρ k = ρ0 n := by
    intro n k e
    unfold sft at e
    split at e
    · rename_i hb; cases e
      have : n < q := by simpa [Nat.blt_eq] using hb
      simp [ρ0, this]
    · cases e
  have H2 : ∀ n k, sft q b' n = some k → ρ' k = ρ0 n := by
    intro n k e
    unfold sft at e
    split at e
    · rename_i hb; cases e
      have : n < q := by simpa [Nat.blt_eq] using hb
      simp [ρ0, this, h n this]
    · cases e
  rw [renV_den H1 v v1 h1, renV_den H2 v v2 h2]

theorem renO_rev {P : Program} {f : Nat → Option Nat} {ρ ρ' : Ren} {w : World} {l : Loc} (H : ∀ n k, f n = some k → ρ' k = ρ n) {o o' : AO} (e : renO f o = some o') (h : ObjRep P ρ' w l o') : ObjRep P ρ w l o := by
  cases o with
  | cells wd cs =>
    simp only [renO] at e
    split at e
    · rename_i l1 h1
      cases e
      obtain ⟨h0, h1', h2, c, t, fr, hb, hf, hc, hc2, hv⟩ := h
      obtain ⟨q1, q2⟩ := renL_get cs l1 h1
      refine ⟨h0, h1', h2, c, t, fr, hb, hf, by omega, hc2, fun j v hj => ?_⟩
      have hjl : j < l1.length := by rw [q1]; exact (List.getElem?_eq_some_iff.1 hj).1
      obtain ⟨u, hu⟩ : ∃ u, l1[j]? = some u := ⟨_, List.getElem?_eq_getElem hjl⟩
      obtain ⟨v0, hv0, hr⟩ := q2 j u hu
      rw [hj] at hv0; cases hv0
      obtain ⟨x, hx, hrx⟩ := hv j u hu
      refine ⟨x, hx, ?_⟩
      rcases hrx with rfl | hrx
      · exact .inl (renV_top v hr)
      · exact .inr (by rw [← renV_den H v u hr]; exact hrx)
    · cases e
  | arr wd sh ro len g =>
    simp only [renO] at e
    split at e
    · rename_i hp
      cases e
      obtain ⟨h1, h2, h3, h4, h5⟩ := h
      refine ⟨h1, h2, h3, h4, fun hc => ?_⟩
      obtain ⟨c, t, fr, hb, hf, hc2, hv⟩ := h5 hc
      refine ⟨c, t, fr, hb, hf, hc2, fun i hi j k hj => ?_⟩
      obtain ⟨kk, x, hx, hd⟩ := hv i hi j k hj
      refine ⟨kk, x, hx, ?_⟩
      rcases plainSh_get sh hp j k hj with ⟨q, rfl⟩ | rfl
      · obtain ⟨n, hn | hn⟩ := kk <;> rw [hn] at hd ⊢ <;> simpa [den] using hd
      · obtain ⟨n, hn | hn⟩ := kk <;> rw [hn] at hd ⊢ <;> simpa [den] using hd
    · cases e
  | map t m =>
    simp only [renO] at e
    cases e
    exact h
  | mapP t m n k => simp [renO] at e

theorem renO_ro {f : Nat → Option Nat} {o o' : AO} (e : renO f o = some o') : o'.ro = o.ro := by
  cases o <;> simp only [renO] at e
  · split at e
    · cases e; rfl
    · cases e
  · split at e
    · cases e; rfl
    · cases e
  · cases e; rfl
  · cases e

theorem mvO_ro {q b : Nat} {o : AO} (ho : okO q o) : (mvO q b o).ro = o.ro := by
  obtain ⟨o1, h1⟩ := ho b
  unfold mvO
  rw [h1]
  exact renO_ro h1

theorem mvO_rep {P : Program} {q b b' : Nat} {ρ ρ' : Ren} {w : World} {l : Loc} (h : ∀ c, c < q → ρ' (b' + c) = ρ (b + c)) {o : AO} (ho : okO q o) (hr : ObjRep P ρ w l (mvO q b o)) : ObjRep P ρ' w l (mvO q b' o) := by
  obtain ⟨o1, h1⟩ := ho b
  obtain ⟨o2, h2⟩ := ho b'
  unfold mvO at hr ⊢
  rw [h1] at hr
  rw [h2]
  let ρ0 : Ren := fun n => if n < q then ρ (b + n) else none
  have H1 : ∀ n k, sft q b n = some k → ρ k = ρ0 n := by
    intro n k e
    unfold sft at e
    split at e
    · rename_i hb; cases e
      have : n < q := by simpa [Nat.blt_eq] using hb
      simp [ρ0, this]
    · cases e
  have H2 : ∀ n k, sft q b' n = some k → ρ' k = ρ0 n := by
    intro n k e
    unfold sft at e
    split at e
    · rename_i hb; cases e
      have : n < q := by simpa [Nat.blt_eq] using hb
      simp [ρ0, this, h n this]
    · cases e
  exact (renO_rep H2 h2 (renO_rev H1 h1 hr)).1

/-! ### names that stay -/
theorem idf_spec {n k : Nat} (h : idf n = some k) : k = n ∧ (n < 900 ∨ gnm 0 ≤ n) := by
  unfold idf at h
  split at h
  · rename_i hb; cases h; exact ⟨rfl, .inl (by simpa [Nat.blt_eq] using hb)⟩
  · split at h
    · rename_i hb; cases h; exact ⟨rfl, .inr (Nat.le_of_ble_eq_true hb)⟩
    · cases h

mutual
theorem renV_id {f : Nat → Option Nat} (H : ∀ n k, f n = some k → k = n) : ∀ (v v' : AV), renV f v = some v' → v' = v
  | .top, v', e => by simp [renV] at e; exact e.symm
  | .int .., v', e => by simp [renV] at e; exact e.symm
  | .sym .., v', e => by simp [renV] at e; exact e.symm
  | .bool .., v', e => by simp [renV] at e; exact e.symm
  | .symb .., v', e => by simp [renV] at e; exact e.symm
  | .nilp, v', e => by simp [renV] at e; exact e.symm
  | .ptr b i j, v', e => by
    simp only [renV] at e
    split at e
    · rename_i k hk; cases e; rw [H _ _ hk]
    · cases e
  | .nils, v', e => by simp [renV] at e; exact e.symm
  | .xs wd b o l c, v', e => by
    simp only [renV] at e
    split at e
    · rename_i k hk; cases e; rw [H _ _ hk]
    · cases e
  | .ss wd b o l c, v', e => by
    simp only [renV] at e
    split at e
    · rename_i k hk; cases e; rw [H _ _ hk]
    · cases e
  | .nilm, v', e => by simp [renV] at e; exact e.symm
  | .map b, v', e => by
    simp only [renV] at e
    split at e
    · rename_i k hk; cases e; rw [H _ _ hk]
    · cases e
  | .nilf, v', e => by simp [renV] at e; exact e.symm
  | .func g l m, v', e => by
    simp only [renV] at e
    split at e
    · rename_i l1 m1 h1 h2; cases e; rw [renL_id H l l1 h1, renL_id H m m1 h2]
    · cases e
  | .nili, v', e => by simp [renV] at e; exact e.symm
  | .iface t v, v', e => by
    simp only [renV] at e
    split at e
    · rename_i v1 h1; cases e; rw [renV_id H v v1 h1]
    · cases e
  | .agg l, v', e => by
    simp only [renV] at e
    split at e
    · rename_i l1 h1; cases e; rw [renL_id H l l1 h1]
    · cases e
  | .tup l, v', e => by
    simp only [renV] at e
    split at e
    · rename_i l1 h1; cases e; rw [renL_id H l l1 h1]
    · cases e
  | .stamp n, v', e => by simp [renV] at e
  | .raw v, v', e => by simp [renV] at e; exact e.symm
theorem renL_id {f : Nat → Option Nat} (H : ∀ n k, f n = some k → k = n) : ∀ (v v' : List AV), renL f v = some v' → v' = v
  | [], v', e => by simp only [renL, Option.some.injEq] at e; exact e.symm
  | v :: r, v', e => by
    simp only [renL] at e
    split at e
    · rename_i v1 r1 h1 h2; cases e; rw [renV_id H v v1 h1, renL_id H r r1 h2]
    · cases e
end

theorem renO_id {f : Nat → Option Nat} (H : ∀ n k, f n = some k → k = n) {o o' : AO} (e : renO f o = some o') : o' = o := by
  cases o <;> simp only [renO] at e
  · split at e
    · rename_i l1 h1; cases e; rw [renL_id H _ _ h1]
    · cases e
  · split at e
    · cases e; rfl
    · cases e
  · cases e; rfl
  · cases e

/-- Renamings that agree where a round changes nothing. -/
def Agree (ρ ρ' : Ren) : Prop := ∀ n, (n < 900 ∨ gnm 0 ≤ n) → ρ' n = ρ n

theorem Agree.idf {ρ ρ' : Ren} (h : Agree ρ ρ') : ∀ n k, Go.Ev.idf n = some k → ρ' k = ρ n := fun n k e => by
  obtain ⟨rfl, hn⟩ := idf_spec e
  exact h _ hn

theorem clean_rep {P : Program} {ρ ρ' : Ren} (h : Agree ρ ρ') {w : World} {l : Loc} {o : AO} (hc : cleanO o = true) (hr : ObjRep P ρ w l o) : ObjRep P ρ' w l o := by
  unfold cleanO at hc
  split at hc
  · rename_i o' e
    have := renO_id (fun n k e => (idf_spec e).1) e
    subst this
    exact (renO_rep h.idf e hr).1
  · cases hc

theorem cleanL_rel {ρ ρ' : Ren} (h : Agree ρ ρ') : ∀ (l l' : List AV), renL Go.Ev.idf l = some l' → ∀ (k : Nat) v, l[k]? = some v → ∀ x, relS ρ v x → relS ρ' v x
  | [], _, _, k, v, hk, _ => by simp at hk
  | a :: r, l', e, k, v, hk, x => by
    simp only [renL] at e
    split at e
    · rename_i v1 r1 h1 h2
      cases k with
      | zero =>
        simp at hk; subst hk
        have e1 := renV_id (fun n k e => (idf_spec e).1) _ _ h1
        subst e1
        exact fun hr => renV_rel h.idf h1 hr
      | succ k => exact cleanL_rel h r r1 h2 k v (by simpa using hk) x
    · cases e

theorem clean_relL {ρ ρ' : Ren} (h : Agree ρ ρ') {l : List AV} (hc : cleanT l = true) {xs : List Value} (hr : RelL ρ l xs) : RelL ρ' l xs := by
  unfold cleanT at hc
  split at hc
  · rename_i l' e
    exact ⟨hr.1, fun k v hk => let ⟨x, hx, r⟩ := hr.2 k v hk; ⟨x, hx, cleanL_rel h l l' e k v hk x r⟩⟩
  · cases hc

theorem cleanH_get {R : Nat} : ∀ (l : List (Nat × AO)), cleanH R l = true → ∀ n o, get l n = some o → (n < 900 ∨ gnm 0 ≤ n) ∧ n ≠ R ∧ cleanO o = true
  | [], _, n, o, h => by simp [get] at h
  | (m, x) :: r, hc, n, o, h => by
    simp only [cleanH] at hc
    split at hc
    · rename_i a b c
      rcases get_cons h with ⟨rfl, rfl⟩ | ⟨_, h⟩
      · exact ⟨(idf_spec a).2, fun e => by subst e; simp at b, c⟩
      · exact cleanH_get r hc n o h
    · cases hc
end Go.Ev

/-
  A loop by an invariant over a family: the rule.
-/
set_option linter.unusedSimpArgs false
set_option linter.unusedVariables false
namespace Go.Ev

theorem renV_one {f : Nat → Option Nat} {v v' : AV} (h : renV f v = some v') : v'.oneCell = v.oneCell := by
  cases v <;> simp only [renV] at h <;> first | (cases h; done) | (cases h; rfl) | (split at h <;> cases h; rfl)

theorem mvV_one {q b : Nat} {v : AV} (h : okV q v) : (mvV q b v).oneCell = v.oneCell := by
  obtain ⟨v1, h1⟩ := h b
  unfold mvV; rw [h1]; exact renV_one h1

theorem mrow_kind {F : Fam} {m : Mb} (h : MbOk F m) {c : Nat} {k : CK} (hk : F.sh[c]? = some k) (b : Nat) : kindOk k (mrow F.q b m c) := by
  obtain ⟨v, h1, h2, h3⟩ := h.cells c k hk
  unfold mrow; rw [h1]
  cases k with
  | int k => obtain ⟨n, rfl⟩ := h3; exact ⟨n, .inr rfl⟩
  | bool => obtain ⟨n, rfl⟩ := h3; exact ⟨n, .inr rfl⟩
  | val => exact (mvV_one h2).trans h3

theorem mrow_den {F : Fam} {m : Mb} (hm : MbOk F m) {ρ ρ' : Ren} {b b' : Nat} (h : ∀ c, c < F.q → ρ' (b' + c) = ρ (b + c)) {c : Nat} {k : CK} (hk : F.sh[c]? = some k) : den ρ' (mrow F.q b' m c) = den ρ (mrow F.q b m c) := by
  obtain ⟨v, h1, h2, h3⟩ := hm.cells c k hk
  unfold mrow; rw [h1]
  exact mv_den h h2

theorem castSt_nxt {h0 : Hp} {m : List (Nat × Src)} {s T : St} {ob : List Prop} (e : castSt h0 m s T = some ob) : s.hp.nxt ≤ h0.hi := by
  unfold castSt at e
  split at e
  · rename_i e0 e1 e2 e3 e4 e5 e6 e7
    simpa [Nat.ble_eq] using e3
  · cases e

/-! ### a state's heap -/
section
variable {F : Fam} {x : FSt}

theorem heap_inv (hF : FamOk F) (hx : FOk F x) {n : Nat} {o : AO} (h : get (x.heap F) n = some o) :
    ((n < 900 ∨ gnm 0 ≤ n) ∧ n ≠ F.R ∧ cleanO o = true ∧ get x.pre n = some o) ∨ (n = F.R ∧ o = .arr F.wd F.sh false x.n (grow F.b0 F.q x.M)) ∨
      ∃ k c o0, k < x.n ∧ c < F.q ∧ n = F.b0 + F.q * k + c ∧ get (x.M k).objs c = some o0 ∧ okO F.q o0 ∧ o = mvO F.q (F.b0 + F.q * k) o0 := by
  rcases get_append_some h with h | ⟨_, h⟩
  · have := cleanH_get _ hx.pre _ _ h
    exact .inl ⟨this.1, this.2.1, this.2.2, h⟩
  · rcases get_cons h with ⟨rfl, rfl⟩ | ⟨hn, h⟩
    · exact .inr (.inl ⟨rfl, rfl⟩)
    · obtain ⟨k, c, o0, h0, h1, h2, h3⟩ := fam_inv _ _ _ h
      have := (hx.mb k h0).objs c o0 h2
      exact .inr (.inr ⟨k, c, o0, h0, this.1, h1, h2, this.2, h3⟩)

theorem heap_pre {n : Nat} {o : AO} (h : get x.pre n = some o) : get (x.heap F) n = some o := by
  unfold FSt.heap; rw [get_append, h]

theorem heap_R (hx : FOk F x) : get (x.heap F) F.R = some (.arr F.wd F.sh false x.n (grow F.b0 F.q x.M)) := by
  unfold FSt.heap
  rw [get_append]
  cases h : get x.pre F.R with
  | some o => exact ((cleanH_get _ hx.pre _ _ h).2.1 rfl).elim
  | none => simp [get]

theorem heap_fam (hF : FamOk F) (hx : FOk F x) (hn : x.n ≤ 1000000) {k c : Nat} {o0 : AO} (hk : k < x.n) (h : get (x.M k).objs c = some o0) : get (x.heap F) (F.b0 + F.q * k + c) = some (mvO F.q (F.b0 + F.q * k) o0) := by
  have h900 := hF.lo
  have hR := hF.R
  have hc := ((hx.mb k hk).objs c o0 h).1
  have hq := hF.q
  have hi := hF.hi
  have hm : F.q * k ≤ 100 * 1000000 := Nat.mul_le_mul hq (by omega)
  unfold FSt.heap
  rw [get_append]
  cases hp : get x.pre (F.b0 + F.q * k + c) with
  | some o => have := (cleanH_get _ hx.pre _ _ hp).1; omega
  | none =>
    simp only [get]
    have : Nat.beq F.R (F.b0 + F.q * k + c) = false := by
      cases e : Nat.beq F.R (F.b0 + F.q * k + c) with
      | false => rfl
      | true => have := Nat.eq_of_beq_eq_true e; omega
    rw [this]
    simp only
    rw [fam_eq x.n (fun i hi c o ho => ((hx.mb i hi).objs c o ho).1) k c hk hc, h]
    rfl
end

theorem loc_inv {F : Fam} {wth : Bool} {objs pre : List (Nat × AO)} {n : Nat} {f : Nat → Nat → AV} {m : Nat} {o : AO} (h : get (locH F wth objs pre n f) m = some o) :
    (wth = true ∧ ∃ c o0, m = 900 + c ∧ get objs c = some o0 ∧ o = mvO F.q 900 o0) ∨ (m = F.R ∧ o = .arr F.wd F.sh false n f) ∨ (m ≠ F.R ∧ get pre m = some o) := by
  unfold locH at h
  rcases get_append_some h with h | ⟨_, h⟩
  · cases wth with
    | true =>
      obtain ⟨c, o0, h1, h2, h3⟩ := named_inv _ _ _ h
      exact .inl ⟨rfl, c, o0, h1, h2, h3⟩
    | false => simp [get] at h
  · rcases get_cons h with ⟨rfl, rfl⟩ | ⟨hn, h⟩
    · exact .inr (.inl ⟨rfl, rfl⟩)
    · exact .inr (.inr ⟨hn, h⟩)

theorem loc_low {F : Fam} {wth : Bool} {objs pre : List (Nat × AO)} {n : Nat} {f : Nat → Nat → AV} {m : Nat} (hm : m < 900) : get (locH F wth objs pre n f) m = get ((F.R, .arr F.wd F.sh false n f) :: pre) m := by
  unfold locH
  rw [get_append]
  cases wth with
  | true =>
    simp only
    cases h : get (named F.q 900 objs) m with
    | none => rfl
    | some o => obtain ⟨c, o0, h1, _⟩ := named_inv _ _ _ h; omega
  | false => rfl

theorem gnm_ge : 1000 ≤ gnm 0 := by unfold gnm; decide

theorem loc_pre {F : Fam} {wth : Bool} {objs pre : List (Nat × AO)} {n : Nat} {f : Nat → Nat → AV} {m : Nat} {o : AO} (hm : m < 900 ∨ gnm 0 ≤ m) (ho : wth = true → ∀ c o, get objs c = some o → c < 100) (hR : m ≠ F.R) (h : get pre m = some o) : get (locH F wth objs pre n f) m = some o := by
  have e0 : get (locH F wth objs pre n f) m = get ((F.R, .arr F.wd F.sh false n f) :: pre) m := by
    unfold locH
    rw [get_append]
    cases wth with
    | true =>
      simp only
      cases h : get (named F.q 900 objs) m with
      | none => rfl
      | some o =>
        obtain ⟨c, o0, h1, h2, _⟩ := named_inv _ _ _ h
        have := ho rfl c o0 h2
        have := gnm_ge
        omega
    | false => rfl
  rw [e0]
  simp only [get]
  have : Nat.beq F.R m = false := by
    cases e : Nat.beq F.R m with
    | false => rfl
    | true => exact (hR (Nat.eq_of_beq_eq_true e).symm).elim
  rw [this]; exact h

theorem loc_R {F : Fam} (hF : FamOk F) {wth : Bool} {objs pre : List (Nat × AO)} {n : Nat} {f : Nat → Nat → AV} : get (locH F wth objs pre n f) F.R = some (.arr F.wd F.sh false n f) := by
  rw [loc_low hF.R]; simp [get]

theorem loc_obj {F : Fam} {objs pre : List (Nat × AO)} {n : Nat} {f : Nat → Nat → AV} {c : Nat} {o : AO} (h : get objs c = some o) : get (locH F true objs pre n f) (900 + c) = some (mvO F.q 900 o) := by
  unfold locH
  rw [get_append]
  simp only
  rw [named_eq, h]; rfl

/-! ### what holds between rounds -/
structure GInv (P : Program) (F : Fam) (ρ0 : Ren) (s0 : St) (w0 : World) (x : FSt) (ρ : Ren) (xs : List Value) (w : World) : Prop where
  rel : RelL ρ x.tmps xs
  st : StepB P (gnm 0) ρ0 s0.hp w0 ρ ⟨x.heap F, 0, 0, [], [], x.wr, false⟩ w
  fresh : ∀ n, 900 ≤ n → n < F.b0 → ρ n = none
  wr0 : ∀ n ∈ s0.hp.wr, n ∈ x.wr

/-- What a loop's start must be. -/
structure SOk (s0 : St) : Prop where
  nxt : s0.hp.nxt ≤ 900
  hi : s0.hp.hi = gnm 0
  heap : ∀ n o, get s0.hp.heap n = some o → n < 900 ∨ gnm 0 ≤ n

def locR (b0 q j : Nat) (ρ : Ren) : Ren := fun n => if 900 ≤ n ∧ n < 1000 then (if n < 900 + q then ρ (b0 + q * j + (n - 900)) else none) else ρ n

theorem locR_agree (b0 q j : Nat) (ρ : Ren) : Agree ρ (locR b0 q j ρ) := fun n hn => by
  unfold locR
  refine if_neg ?_
  rintro ⟨h1, h2⟩
  rcases hn with h | h
  · omega
  · exact Nat.lt_irrefl n (Nat.lt_of_lt_of_le h2 (Nat.le_trans gnm_ge h))

theorem locR_out {b0 q j : Nat} {ρ : Ren} {n : Nat} (h : n < 900 ∨ 1000 ≤ n) : locR b0 q j ρ n = ρ n := by
  unfold locR
  rw [if_neg (by omega)]

theorem locR_in {b0 q j : Nat} {ρ : Ren} {c : Nat} (hq : q ≤ 100) (h : c < q) : locR b0 q j ρ (900 + c) = ρ (b0 + q * j + c) := by
  unfold locR
  rw [if_pos (by omega), if_pos (by omega), Nat.add_sub_cancel_left]

/-- The name that a round's own name is. -/
def glN (b0 q j m : Nat) : Nat := if 900 ≤ m ∧ m < 1000 then b0 + q * j + (m - 900) else m

section
variable {P : Program} {F : Fam} {ρ0 : Ren} {s0 : St} {w0 : World} {x : FSt} {ρ : Ren} {xs : List Value} {w : World}

theorem loc_gl (hF : FamOk F) (hx : FOk F x) (hnn : x.n ≤ 1000000) {j : Nat} {wth : Bool} (hj : wth = true → j < x.n) {m : Nat} {o : AO} (h : get (locH F wth (x.M j).objs x.pre x.n (lrow F.b0 F.q x.M j)) m = some o) :
    (m < 1000 ∨ gnm 0 ≤ m) ∧ (900 ≤ m → m < 1000 → m < 900 + F.q ∧ j < x.n) ∧ ∃ o', get (x.heap F) (glN F.b0 F.q j m) = some o' ∧ o.ro = o'.ro ∧ locR F.b0 F.q j ρ m = ρ (glN F.b0 F.q j m) := by
  have hq := hF.q
  have hR := hF.R
  rcases loc_inv h with ⟨hw, c, o0, rfl, h2, rfl⟩ | ⟨rfl, rfl⟩ | ⟨hn, h⟩
  · have hjn := hj hw
    have hc := (hx.mb j hjn).objs c o0 h2
    refine ⟨by omega, fun _ _ => ⟨by omega, hjn⟩, mvO F.q (F.b0 + F.q * j) o0, ?_, ?_, ?_⟩
    · have : glN F.b0 F.q j (900 + c) = F.b0 + F.q * j + c := by unfold glN; rw [if_pos (by omega)]; omega
      rw [this]; exact heap_fam hF hx hnn hjn h2
    · rw [mvO_ro hc.2, mvO_ro hc.2]
    · have : glN F.b0 F.q j (900 + c) = F.b0 + F.q * j + c := by unfold glN; rw [if_pos (by omega)]; omega
      rw [this]; exact locR_in hq hc.1
  · have e : glN F.b0 F.q j F.R = F.R := by unfold glN; rw [if_neg (by omega)]
    refine ⟨by omega, fun h _ => by omega, .arr F.wd F.sh false x.n (grow F.b0 F.q x.M), by rw [e]; exact heap_R hx, rfl, ?_⟩
    rw [e]; exact locR_out (by omega)
  · have hl := (cleanH_get _ hx.pre _ _ h).1
    have hg := gnm_ge
    have e : glN F.b0 F.q j m = m := by unfold glN; rw [if_neg (by omega)]
    refine ⟨by omega, fun h _ => by omega, o, by rw [e]; exact heap_pre h, rfl, ?_⟩
    rw [e]; exact locR_out (by omega)

theorem toLocS (hF : FamOk F) (hS : SOk s0) (f0 : Fresh ρ0 s0.hp.nxt (gnm 0)) (hx : FOk F x) (hn : x.n ≤ 1000000) (g : GInv P F ρ0 s0 w0 x ρ xs w) (G : GOk ρ) {j : Nat} {wth : Bool} (hj : wth = true → j < x.n) (hints : List Hint) :
    RelL (locR F.b0 F.q j ρ) x.tmps xs ∧ StepB P (gnm 0) ρ0 s0.hp w0 (locR F.b0 F.q j ρ) (locSt F x wth (x.M j) j hints).hp w ∧ Fresh (locR F.b0 F.q j ρ) 1000 F.b0 ∧ GOk (locR F.b0 F.q j ρ) := by
  have hq := hF.q
  have hf1 : F.b0 < gnm 0 := by have := hF.hi; omega
  have hf2 := hF.lo
  have hnx := hS.nxt
  have agr := locR_agree F.b0 F.q j ρ
  have gl := fun {m o} h => loc_gl (ρ := ρ) hF hx hn hj (m := m) (o := o) h
  have bound : ∀ m, 900 ≤ m → m < 900 + F.q → j < x.n → glN F.b0 F.q j m < gnm 0 ∧ F.b0 ≤ glN F.b0 F.q j m := by
    intro m h1 h2 h3
    unfold glN
    rw [if_pos ⟨h1, by omega⟩]
    have : F.q * j ≤ 100 * 1000000 := Nat.mul_le_mul hq (by omega)
    have := hF.hi
    omega
  refine ⟨clean_relL agr hx.tm g.rel, ⟨?_, ?_, ⟨?_, ?_⟩, g.st.fr, ?_⟩, ?_, ?_⟩
  · intro n l h
    have : n < 900 ∨ gnm 0 ≤ n := by
      rcases Nat.lt_or_ge n s0.hp.nxt with h1 | h1
      · exact .inl (by omega)
      · rcases Nat.lt_or_ge n (gnm 0) with h2 | h2
        · rw [f0 n h1 h2] at h; cases h
        · exact .inr h2
    rw [agr n this]
    exact g.st.le n l h
  · intro n l h1 h2
    by_cases e : 900 ≤ n ∧ n < 1000
    · exact ⟨by omega, by omega⟩
    · rw [locR_out (by omega)] at h2
      exact g.st.new n l h1 h2
  · intro n o h
    rcases loc_inv h with ⟨hw, c, o0, rfl, h2, rfl⟩ | ⟨rfl, rfl⟩ | ⟨hnR, h⟩
    · have hjn := hj hw
      have hc := (hx.mb j hjn).objs c o0 h2
      obtain ⟨L, hL, hob⟩ := g.st.rep.1 _ _ (heap_fam hF hx hn hjn h2)
      exact ⟨L, (locR_in hq hc.1).trans hL, mvO_rep (fun c hc => locR_in hq hc) hc.2 hob⟩
    · obtain ⟨L, hL, hob⟩ := g.st.rep.1 _ _ (heap_R (F := F) hx)
      refine ⟨L, (locR_out (by have := hF.R; omega)).trans hL, ?_⟩
      obtain ⟨h1, h2, h3, h4, h5⟩ := hob
      refine ⟨h1, h2, h3, h4, fun hc => ?_⟩
      obtain ⟨cc, t, fr, hb, hf, hc2, hv⟩ := h5 hc
      refine ⟨cc, t, fr, hb, hf, hc2, fun i hi c k hk => ?_⟩
      obtain ⟨_, v, hv1, hv2⟩ := hv i hi c k hk
      have hmb := hx.mb i hi
      by_cases e : i = j
      · subst e
        have e2 : lrow F.b0 F.q x.M i i c = mrow F.q 900 (x.M i) c := by simp [lrow]
        rw [e2]
        refine ⟨mrow_kind hmb hk 900, v, hv1, ?_⟩
        rw [mrow_den hmb (ρ := ρ) (b := F.b0 + F.q * i) (fun c hc => locR_in hq hc) hk]
        exact hv2
      · have e2 : lrow F.b0 F.q x.M j i c = mrow F.q (F.b0 + F.q * i) (x.M i) c := by simp [lrow, e]
        rw [e2]
        refine ⟨mrow_kind hmb hk _, v, hv1, ?_⟩
        rw [mrow_den hmb (ρ := ρ) (b := F.b0 + F.q * i) (fun c hc => locR_out (by omega)) hk]
        exact hv2
    · obtain ⟨L, hL, hob⟩ := g.st.rep.1 _ _ (heap_pre (F := F) h)
      have := cleanH_get _ hx.pre _ _ h
      have hg := gnm_ge
      exact ⟨L, (locR_out (by have := this.1; omega)).trans hL, clean_rep agr this.2.2 hob⟩
  · intro n m o o' l l' h h' hne hro hl hl' hc hc'
    obtain ⟨a1, a2, p, a3, a4, a5⟩ := gl h
    obtain ⟨b1, b2, p', b3, b4, b5⟩ := gl h'
    rw [a5] at hl; rw [b5] at hl'
    refine g.st.rep.2 _ _ p p' l l' a3 b3 ?_ (by rw [← a4, ← b4]; exact hro) hl hl' hc hc'
    intro e
    by_cases en : 900 ≤ n ∧ n < 1000
    · have k1 := a2 en.1 en.2
      have k2 := bound n en.1 k1.1 k1.2
      by_cases em : 900 ≤ m ∧ m < 1000
      · unfold glN at e
        rw [if_pos en, if_pos em] at e
        omega
      · have e3 : glN F.b0 F.q j m = m := by unfold glN; rw [if_neg em]
        rw [e3] at e
        omega
    · have e3 : glN F.b0 F.q j n = n := by unfold glN; rw [if_neg en]
      rw [e3] at e
      by_cases em : 900 ≤ m ∧ m < 1000
      · have k1 := b2 em.1 em.2
        have k2 := bound m em.1 k1.1 k1.2
        omega
      · have e4 : glN F.b0 F.q j m = m := by unfold glN; rw [if_neg em]
        rw [e4] at e
        exact hne e
  · intro n o l h hl hc hlt
    obtain ⟨a1, a2, p, a3, a4, a5⟩ := gl h
    rw [a5] at hl
    obtain ⟨m, o', l', h1, h2, h3, h4, h5, h6⟩ := g.st.own _ p l a3 hl hc hlt
    refine ⟨m, o', l', h1, h2.trans a4.symm, h3, h4, h5, ?_⟩
    rcases h6 with h6 | h6
    · by_cases e : 900 ≤ n ∧ n < 1000
      · have := a2 e.1 e.2
        have := bound n e.1 this.1 this.2
        have := hS.heap m o' h1
        omega
      · unfold glN at h6; rw [if_neg e] at h6; exact .inl h6
    · exact .inr h6
  · intro n h1 h2
    rw [locR_out (by omega)]
    exact g.fresh n (by omega) h2
  · intro g'
    obtain ⟨l, hl, r⟩ := G g'
    exact ⟨l, (locR_out (by unfold gnm; unfold gnm at hf1; omega)).trans hl, r⟩

/-- The names behind a round. -/
def outR (b0 q j n : Nat) (ρ : Ren) : Ren := fun k => if 900 ≤ k ∧ k < b0 then none else if b0 + q * j ≤ k ∧ k < b0 + q * j + q ∧ j < n then ρ (900 + (k - (b0 + q * j))) else ρ k

theorem fromLocS (hF : FamOk F) (hS : SOk s0) (f0 : Fresh ρ0 s0.hp.nxt (gnm 0)) (hx : FOk F x) (hn : x.n ≤ 1000000) (g : GInv P F ρ0 s0 w0 x ρ xs w) {j : Nat} {wth : Bool} (hj : wth = true → j < x.n) {hints : List Hint}
    (l1 : HeapRep P (locR F.b0 F.q j ρ) (locSt F x wth (x.M j) j hints).hp.heap w) {ρ2 : Ren} {h2 : Hp} {w2 : World} (st2 : Step P (locR F.b0 F.q j ρ) (locSt F x wth (x.M j) j hints).hp w ρ2 h2 w2) (hnx : h2.nxt ≤ F.b0) (hwr : ∀ n ∈ x.wr, n ∈ h2.wr)
    {y : FSt} (hy : FOk F y) (hyn : y.n ≤ 1000000) {wth' : Bool} (hw' : (wth' = true ∧ j < y.n) ∨ (wth' = false ∧ y.n ≤ j)) (same : ∀ i, i < y.n → i ≠ j → i < x.n ∧ y.M i = x.M i)
    {ρ3 : Ren} {xs2 : List Value} (rel3 : RelL ρ3 y.tmps xs2) (st3 : StepB P (gnm 0) ρ0 s0.hp w0 ρ3 (locSt F y wth' (y.M j) j []).hp w2) (fr3 : Fresh ρ3 1000 F.b0) (wr0 : ∀ n ∈ s0.hp.wr, n ∈ y.wr)
    (keep : ∀ n, ¬ (s0.hp.nxt ≤ n ∧ n < F.b0) → ρ3 n = ρ2 n) (wr3 : ∀ n ∈ h2.wr, ∀ o, get s0.hp.heap n = some o → n ∈ y.wr)
    (src : ∀ n o l, get (locSt F y wth' (y.M j) j []).hp.heap n = some o → ρ3 n = some l → l.cap ≠ 0 → ∃ k o1, get h2.heap k = some o1 ∧ ρ2 k = some l ∧ o.ro = o1.ro) :
    GInv P F ρ0 s0 w0 y (outR F.b0 F.q j y.n ρ3) xs2 w2 := by
  have hq := hF.q
  have hR := hF.R
  have hf1 : F.b0 < gnm 0 := by have := hF.hi; omega
  have hf2 := hF.lo
  have hlo := hS.nxt
  have big := hF.hi
  have mul : ∀ k, k < 1000000 → F.q * k ≤ 100 * 1000000 := fun k hk => Nat.mul_le_mul hq (by omega)
  have agr : Agree ρ3 (outR F.b0 F.q j y.n ρ3) := fun n h => by
    unfold outR
    rw [if_neg (by omega)]
    rw [if_neg]
    rintro ⟨h1, h3, h4⟩
    have := mul j (by omega)
    omega
  have outIn : ∀ c, c < F.q → j < y.n → outR F.b0 F.q j y.n ρ3 (F.b0 + F.q * j + c) = ρ3 (900 + c) := fun c hc hjn => by
    unfold outR
    rw [if_neg (by omega), if_pos ⟨by omega, by omega, hjn⟩, Nat.add_sub_cancel_left]
  have high : ∀ n, F.b0 ≤ n → ρ3 n = ρ n := fun n h => by
    rw [keep n (by omega)]
    have e : locR F.b0 F.q j ρ n = ρ n := locR_out (by omega)
    rw [← e]
    cases h1 : locR F.b0 F.q j ρ n with
    | some l => exact st2.le n l h1
    | none =>
      cases h3 : ρ2 n with
      | none => rfl
      | some l => have := (st2.new n l h1 h3).2; omega
  have outFam : ∀ i c, i ≠ j → c < F.q → outR F.b0 F.q j y.n ρ3 (F.b0 + F.q * i + c) = ρ (F.b0 + F.q * i + c) := fun i c hij hc => by
    unfold outR
    rw [if_neg (by omega), if_neg]
    · exact high _ (by omega)
    · rintro ⟨h1, h3, _⟩
      obtain ⟨d, hd⟩ : ∃ d, F.b0 + F.q * i + c = F.b0 + F.q * j + d := ⟨F.b0 + F.q * i + c - (F.b0 + F.q * j), by omega⟩
      exact hij (fam_apart hc (by omega : d < F.q) hd).1
  -- what stands at a name behind the round
  have kind : ∀ n o, get (y.heap F) n = some o → (∃ ln o1, get (locSt F y wth' (y.M j) j []).hp.heap ln = some o1 ∧ o.ro = o1.ro ∧ outR F.b0 F.q j y.n ρ3 n = ρ3 ln ∧ (((n < 900 ∨ gnm 0 ≤ n) ∧ ln = n) ∨ ∃ c, c < F.q ∧ j < y.n ∧ n = F.b0 + F.q * j + c ∧ ln = 900 + c) ∧ ∀ L, ObjRep P ρ3 w2 L o1 → ObjRep P (outR F.b0 F.q j y.n ρ3) w2 L o) ∨
      (∃ i c o0, i ≠ j ∧ i < x.n ∧ c < F.q ∧ n = F.b0 + F.q * i + c ∧ okO F.q o0 ∧ o = mvO F.q (F.b0 + F.q * i) o0 ∧ get (x.heap F) n = some o ∧ outR F.b0 F.q j y.n ρ3 n = ρ n) := by
    intro n o h
    rcases heap_inv hF hy h with ⟨h1, h3, h4, h5⟩ | ⟨rfl, rfl⟩ | ⟨i, c, o0, h1, h3, rfl, h4, h5, rfl⟩
    · refine .inl ⟨n, o, loc_pre h1 (fun hw c o hc => ?_) h3 h5, rfl, agr n h1, .inl ⟨h1, rfl⟩, fun L hL => clean_rep agr h4 hL⟩
      have hjn : j < y.n := by
        rcases hw' with h | h
        · exact h.2
        · rw [h.1] at hw; cases hw
      have := ((hy.mb j hjn).objs c o hc).1
      omega
    · refine .inl ⟨F.R, _, loc_R hF, rfl, agr _ (.inl hR), .inl ⟨.inl hR, rfl⟩, fun L hob => ?_⟩
      obtain ⟨h1, h3, h4, h5, h6⟩ := hob
      refine ⟨h1, h3, h4, h5, fun hc => ?_⟩
      obtain ⟨cc, t, fr, hb, hf, hc2, hv⟩ := h6 hc
      refine ⟨cc, t, fr, hb, hf, hc2, fun i hi c k hk => ?_⟩
      obtain ⟨_, v, hv1, hv2⟩ := hv i hi c k hk
      have hmb := hy.mb i hi
      refine ⟨mrow_kind hmb hk _, v, hv1, ?_⟩
      by_cases e : i = j
      · subst e
        have e2 : lrow F.b0 F.q y.M i i c = mrow F.q 900 (y.M i) c := by simp [lrow]
        rw [e2] at hv2
        unfold grow
        rw [mrow_den hmb (ρ := ρ3) (b := 900) (fun c hc => outIn c hc hi) hk]
        exact hv2
      · have e2 : lrow F.b0 F.q y.M j i c = mrow F.q (F.b0 + F.q * i) (y.M i) c := by simp [lrow, e]
        rw [e2] at hv2
        unfold grow
        rw [mrow_den hmb (ρ := ρ3) (b := F.b0 + F.q * i) (fun c hc => by rw [outFam i c e hc, high _ (by omega)]) hk]
        exact hv2
    · by_cases e : i = j
      · subst e
        have hwt : wth' = true := by
          rcases hw' with h | h
          · exact h.1
          · omega
        subst hwt
        refine .inl ⟨900 + c, mvO F.q 900 o0, loc_obj h4, by rw [mvO_ro h5, mvO_ro h5], outIn c h3 h1, .inr ⟨c, h3, h1, rfl, rfl⟩, fun L hL => mvO_rep (fun c hc => outIn c hc h1) h5 hL⟩
      · obtain ⟨s1, s2⟩ := same i h1 e
        rw [s2] at h4
        exact .inr ⟨i, c, o0, e, s1, h3, rfl, h5, rfl, heap_fam hF hx hn s1 h4, outFam i c e h3⟩
  -- a block that stays
  have stay : ∀ n o L, get (x.heap F) n = some o → (∃ i c, i ≠ j ∧ i < x.n ∧ c < F.q ∧ n = F.b0 + F.q * i + c) → ρ n = some L → L.cap ≠ 0 → ∀ m o1 L1, get (locSt F x wth (x.M j) j hints).hp.heap m = some o1 → (o1.ro && o.ro) = false → locR F.b0 F.q j ρ m = some L1 → L1.cap ≠ 0 → L1.blk ≠ L.blk := by
    intro n o L h ⟨i, c, h1, h3, h4, h5⟩ hL hc m o1 L1 hm hro hL1 hc1
    obtain ⟨a1, a2, p, a3, a4, a5⟩ := loc_gl (ρ := ρ) hF hx hn hj hm
    rw [a5] at hL1
    refine g.st.rep.2 _ _ p o L1 L a3 h ?_ (by rw [← a4]; exact hro) hL1 hL hc1 hc
    intro e
    have hmi := mul i (by omega)
    unfold glN at e
    split at e
    · rename_i e1
      have := a2 e1.1 e1.2
      rw [h5] at e
      obtain ⟨d, hd⟩ : ∃ d, m = 900 + d := ⟨m - 900, by omega⟩
      subst hd
      have := fam_apart (show d < F.q by omega) h4 (show F.b0 + F.q * j + d = F.b0 + F.q * i + c by omega)
      exact h1 this.1.symm
    · omega
  have unch : ∀ n o L, get (x.heap F) n = some o → (∃ i c, i ≠ j ∧ i < x.n ∧ c < F.q ∧ n = F.b0 + F.q * i + c) → ρ n = some L → L.cap ≠ 0 → L.blk < w.heap.size → w2.heap[L.blk]? = w.heap[L.blk]? := by
    intro n o L h hi hL hc hlt
    refine st2.fr.same L.blk hlt ?_
    rintro ⟨m, hm, o1, L1, y1, y2, y3, y4, y5⟩
    exact stay n o L h hi hL hc m o1 L1 y1 (by rw [y2]; rfl) y3 y4 y5
  have mixed : ∀ ln o1 L1 n o L, get (locSt F y wth' (y.M j) j []).hp.heap ln = some o1 → ρ3 ln = some L1 → L1.cap ≠ 0 → get (x.heap F) n = some o → (∃ i c, i ≠ j ∧ i < x.n ∧ c < F.q ∧ n = F.b0 + F.q * i + c) → ρ n = some L → L.cap ≠ 0 → (o1.ro && o.ro) = false → L1.blk ≠ L.blk := by
    intro ln o1 L1 n o L h1 h3 hc1 h hi hL hc hro heq
    obtain ⟨k, o2, s1, s2, s3⟩ := src ln o1 L1 h1 h3 hc1
    obtain ⟨L', hL', hob⟩ := g.st.rep.1 n o h
    rw [hL] at hL'; cases hL'
    have hlt := hob.lt hc
    obtain ⟨m, o3, L3, y1, y2, y3, y4, y5, _⟩ := st2.own k o2 L1 s1 s2 hc1 (by rw [heq]; exact hlt)
    exact stay n o L h hi hL hc m o3 L3 y1 (by rw [y2, ← s3]; exact hro) y3 y4 (y5.trans heq)
  refine ⟨clean_relL agr hy.tm rel3, ⟨?_, ?_, ⟨?_, ?_⟩, st3.fr, ?_⟩, ?_, wr0⟩
  · intro n l h
    have : n < 900 ∨ gnm 0 ≤ n := by
      rcases Nat.lt_or_ge n s0.hp.nxt with h1 | h1
      · exact .inl (by omega)
      · rcases Nat.lt_or_ge n (gnm 0) with h2 | h2
        · rw [f0 n h1 h2] at h; cases h
        · exact .inr h2
    rw [agr n this]
    exact st3.le n l h
  · intro n l h1 h3
    unfold outR at h3
    split at h3
    · cases h3
    · split at h3
      · rename_i e
        have := mul j (by omega)
        exact ⟨by omega, by omega⟩
      · exact st3.new n l h1 h3
  · intro n o h
    rcases kind n o h with ⟨ln, o1, a1, a2, a3, a4, a5⟩ | ⟨i, c, o0, a1, a2, a3, rfl, a4, rfl, a5, a6⟩
    · obtain ⟨L, hL, hob⟩ := st3.rep.1 ln o1 a1
      exact ⟨L, a3.trans hL, a5 L hob⟩
    · obtain ⟨L, hL, hob⟩ := g.st.rep.1 _ _ a5
      refine ⟨L, a6.trans hL, ?_⟩
      have h1 : ObjRep P ρ w2 L (mvO F.q (F.b0 + F.q * i) o0) := hob.keep (Le.refl ρ) (fun hc => unch _ _ L a5 ⟨i, c, a1, a2, a3, rfl⟩ hL hc (hob.lt hc))
      exact mvO_rep (fun c hc => outFam i c a1 hc) a4 h1
  · intro n m o o' l l' h h' hne hro hl hl' hc hc'
    rcases kind n o h with ⟨ln, o1, a1, a2, a3, a4, a5⟩ | ⟨i, c, o0, a1, a2, a3, a7, a4, rfl, a5, a6⟩
    · rw [a3] at hl
      rcases kind m o' h' with ⟨ln', o1', b1, b2, b3, b4, b5⟩ | ⟨i', c', o0', b1, b2, b3, b7, b4, rfl, b5, b6⟩
      · rw [b3] at hl'
        refine st3.rep.2 ln ln' o1 o1' l l' a1 b1 ?_ (by rw [← a2, ← b2]; exact hro) hl hl' hc hc'
        intro e
        rcases a4 with ⟨p1, p2⟩ | ⟨c, p1, p2, p3, p4⟩
        · rcases b4 with ⟨r1, r2⟩ | ⟨c', r1, r2, r3, r4⟩
          · exact hne (by omega)
          · omega
        · rcases b4 with ⟨r1, r2⟩ | ⟨c', r1, r2, r3, r4⟩
          · omega
          · exact hne (by omega)
      · rw [b6] at hl'
        exact mixed ln o1 l m _ l' a1 hl hc b5 ⟨i', c', b1, b2, b3, b7⟩ hl' hc' (by rw [← a2]; exact hro)
    · rw [a6] at hl
      rcases kind m o' h' with ⟨ln', o1', b1, b2, b3, b4, b5⟩ | ⟨i', c', o0', b1, b2, b3, b7, b4, rfl, b5, b6⟩
      · rw [b3] at hl'
        exact (mixed ln' o1' l' n _ l b1 hl' hc' a5 ⟨i, c, a1, a2, a3, a7⟩ hl hc (by rw [← b2, Bool.and_comm]; exact hro)).symm
      · rw [b6] at hl'
        exact g.st.rep.2 n m _ _ l l' a5 b5 hne hro hl hl' hc hc'
  · intro n o l h hl hc hlt
    rcases kind n o h with ⟨ln, o1, a1, a2, a3, a4, a5⟩ | ⟨i, c, o0, a1, a2, a3, rfl, a4, rfl, a5, a6⟩
    · rw [a3] at hl
      obtain ⟨m, o', l', h1, h3, h4, h5, h6, h7⟩ := st3.own ln o1 l a1 hl hc hlt
      refine ⟨m, o', l', h1, h3.trans a2.symm, h4, h5, h6, ?_⟩
      rcases h7 with rfl | h7
      · rcases a4 with ⟨p1, p2⟩ | ⟨c, p1, p2, p3, p4⟩
        · exact .inl p2
        · have := hS.heap _ _ h1; omega
      · exact .inr h7
    · rw [a6] at hl
      obtain ⟨m, o', l', h1, h3, h4, h5, h6, h7⟩ := g.st.own _ _ l a5 hl hc hlt
      refine ⟨m, o', l', h1, h3, h4, h5, h6, .inr ?_⟩
      rcases h7 with rfl | h7
      · have := hS.heap _ _ h1
        have := mul i (by omega)
        omega
      · exact wr3 m (hwr m h7) o' h1
  · intro n h1 h3
    unfold outR
    rw [if_pos ⟨h1, h3⟩]

theorem initS (hF : FamOk F) (hS : SOk s0) (f0 : Fresh ρ0 s0.hp.nxt (gnm 0)) {y : FSt} (hy : FOk F y) (hyn : y.n ≤ 1000000) (none' : ∀ k, k < y.n → (y.M k).objs = []) {mb : Mb}
    {ρ3 : Ren} {xs2 : List Value} {w2 : World} (rel3 : RelL ρ3 y.tmps xs2) (st3 : StepB P (gnm 0) ρ0 s0.hp w0 ρ3 (locSt F y false mb y.n []).hp w2) (wr0 : ∀ n ∈ s0.hp.wr, n ∈ y.wr) :
    GInv P F ρ0 s0 w0 y (outR F.b0 F.q y.n y.n ρ3) xs2 w2 := by
  have hq := hF.q
  have hR := hF.R
  have hlo := hS.nxt
  have hf2 := hF.lo
  have hf1 : F.b0 < gnm 0 := by have := hF.hi; omega
  have out : ∀ n, (n < 900 ∨ F.b0 ≤ n) → outR F.b0 F.q y.n y.n ρ3 n = ρ3 n := fun n h => by
    unfold outR
    rw [if_neg (by omega), if_neg (by omega)]
  have agr : Agree ρ3 (outR F.b0 F.q y.n y.n ρ3) := fun n h => out n (by omega)
  have kind : ∀ n o, get (y.heap F) n = some o → (n < 900 ∨ gnm 0 ≤ n) ∧ ∃ o1, get (locSt F y false mb y.n []).hp.heap n = some o1 ∧ o.ro = o1.ro ∧ ∀ L, ObjRep P ρ3 w2 L o1 → ObjRep P (outR F.b0 F.q y.n y.n ρ3) w2 L o := by
    intro n o h
    rcases heap_inv hF hy h with ⟨h1, h3, h4, h5⟩ | ⟨rfl, rfl⟩ | ⟨i, c, o0, h1, h3, rfl, h4, h5, rfl⟩
    · exact ⟨h1, o, loc_pre (F := F) (wth := false) (objs := mb.objs) (n := y.n) (f := lrow F.b0 F.q y.M y.n) h1 (fun hw => by cases hw) h3 h5, rfl, fun L hL => clean_rep agr h4 hL⟩
    · refine ⟨.inl hR, .arr F.wd F.sh false y.n (lrow F.b0 F.q y.M y.n), loc_R (wth := false) (objs := mb.objs) (pre := y.pre) (n := y.n) (f := lrow F.b0 F.q y.M y.n) hF, rfl, fun L hob => ?_⟩
      obtain ⟨h1, h3, h4, h5, h6⟩ := hob
      refine ⟨h1, h3, h4, h5, fun hc => ?_⟩
      obtain ⟨cc, t, fr, hb, hf, hc2, hv⟩ := h6 hc
      refine ⟨cc, t, fr, hb, hf, hc2, fun i hi c k hk => ?_⟩
      obtain ⟨_, v, hv1, hv2⟩ := hv i hi c k hk
      have hmb := hy.mb i hi
      refine ⟨mrow_kind hmb hk _, v, hv1, ?_⟩
      have e : i ≠ y.n := by omega
      have e2 : lrow F.b0 F.q y.M y.n i c = mrow F.q (F.b0 + F.q * i) (y.M i) c := by simp [lrow, e]
      rw [e2] at hv2
      unfold grow
      rw [mrow_den hmb (ρ := ρ3) (b := F.b0 + F.q * i) (fun c hc => out _ (by omega)) hk]
      exact hv2
    · rw [none' i h1] at h4; simp [get] at h4
  refine ⟨clean_relL agr hy.tm rel3, ⟨?_, ?_, ⟨?_, ?_⟩, st3.fr, ?_⟩, ?_, wr0⟩
  · intro n l h
    have : n < 900 ∨ gnm 0 ≤ n := by
      rcases Nat.lt_or_ge n s0.hp.nxt with h1 | h1
      · exact .inl (by omega)
      · rcases Nat.lt_or_ge n (gnm 0) with h2 | h2
        · rw [f0 n h1 h2] at h; cases h
        · exact .inr h2
    rw [agr n this]
    exact st3.le n l h
  · intro n l h1 h3
    by_cases e : n < 900 ∨ F.b0 ≤ n
    · rw [out n e] at h3; exact st3.new n l h1 h3
    · unfold outR at h3
      rw [if_pos (by omega)] at h3
      cases h3
  · intro n o h
    obtain ⟨h1, o1, h3, h4, h5⟩ := kind n o h
    obtain ⟨L, hL, hob⟩ := st3.rep.1 n o1 h3
    exact ⟨L, (out n (by omega)).trans hL, h5 L hob⟩
  · intro n m o o' l l' h h' hne hro hl hl' hc hc'
    obtain ⟨h1, o1, h3, h4, h5⟩ := kind n o h
    obtain ⟨k1, p1, k3, k4, k5⟩ := kind m o' h'
    rw [out n (by omega)] at hl
    rw [out m (by omega)] at hl'
    exact st3.rep.2 n m o1 p1 l l' h3 k3 hne (by rw [← h4, ← k4]; exact hro) hl hl' hc hc'
  · intro n o l h hl hc hlt
    obtain ⟨h1, o1, h3, h4, h5⟩ := kind n o h
    rw [out n (by omega)] at hl
    obtain ⟨m, o', l', q1, q2, q3⟩ := st3.own n o1 l h3 hl hc hlt
    exact ⟨m, o', l', q1, q2.trans h4.symm, q3⟩
  · intro n h1 h3
    unfold outR
    rw [if_pos ⟨h1, h3⟩]
end

theorem StepB.trans {P : Program} {B : Nat} {ρ ρ' ρ'' : Ren} {h h' h'' : Hp} {w w' w'' : World} (a : StepB P B ρ h w ρ' h' w') (b : Step P ρ' h' w' ρ'' h'' w'') (mw : ∀ n ∈ h'.wr, n ∈ h''.wr) (hn : h.nxt ≤ h'.nxt) (hB : h''.nxt ≤ B) : StepB P B ρ h w ρ'' h'' w'' where
  le := a.le.trans b.le
  new := fun n l e e' => by
    cases h1 : ρ' n with
    | none => have := b.new n l h1 e'; exact ⟨Nat.le_trans hn this.1, Nat.lt_of_lt_of_le this.2 hB⟩
    | some l' => exact a.new n l' e h1
  rep := b.rep
  fr := by
    refine ⟨Nat.le_trans a.fr.size b.fr.size, fun k hk hn => ?_, b.fr.tape.trans a.fr.tape, b.fr.os.trans a.fr.os, b.fr.output.trans a.fr.output⟩
    refine (b.fr.same k (Nat.lt_of_lt_of_le hk a.fr.size) ?_).trans (a.fr.same k hk (fun x => hn (Owned.mono mw k x)))
    rintro ⟨m, hm, o, l, h1, hro, h2, h3, rfl⟩
    obtain ⟨m', o', l', g1, gro, g2, g3, g4, g5⟩ := a.own m o l h1 h2 h3 hk
    refine hn ⟨m', ?_, o', l', g1, gro.trans hro, g2, g3, g4⟩
    rcases g5 with rfl | g5
    · exact hm
    · exact mw _ g5
  own := fun n o l h1 h2 h3 h4 => by
    obtain ⟨m, o', l', g1, gro, g2, g3, g4, g5⟩ := b.own n o l h1 h2 h3 (Nat.lt_of_lt_of_le h4 a.fr.size)
    obtain ⟨m', o'', l'', k1, kro, k2, k3, k4, k5⟩ := a.own m o' l' g1 g2 g3 (by rw [g4]; exact h4)
    refine ⟨m', o'', l'', k1, kro.trans gro, k2, k3, k4.trans g4, ?_⟩
    rcases k5 with rfl | k5
    · exact g5
    · exact .inr (mw _ k5)

/-- What a round's casts start from. -/
def h0F (F : Fam) (s0 : St) : Hp := ⟨s0.hp.heap, s0.hp.nxt, F.b0, [], [], s0.hp.wr, false⟩

/-- One round over a family, as an evaluation shows it. -/
def FamRound (E : Env) (c : Code) (F : Fam) (s0 : St) (e0 : Ex) (s1 : St) {X : Type} (T : X → FSt) (μ : X → Nat) (ok : X → Prop) (x : X) : Prop :=
  ∃ j wth mb fuel hints e s', (wth = true → j < (T x).n) ∧ (T x).M j = mb ∧ exec E fuel c (locSt F (T x) wth mb j hints) = some (e, s') ∧ Obs s'.hp ∧
    ((e = .norm ∧ ∃ y wth' mb' m ob, ok y ∧ μ y < μ x ∧ (T y).M j = mb' ∧ ((wth' = true ∧ j < (T y).n) ∨ (wth' = false ∧ (T y).n ≤ j)) ∧ (∀ i, i < (T y).n → i ≠ j → i < (T x).n ∧ (T y).M i = (T x).M i) ∧
        castSt (h0F F s0) m s' (locSt F (T y) wth' mb' j []) = some ob ∧ ∀ p ∈ ob, p) ∨
      (e = e0 ∧ e ≠ .norm ∧ ∃ m ob, castSt s0.hp m s' s1 = some ob ∧ ∀ p ∈ ob, p))

theorem fam_rule {E : Env} (hE : EnvOk E) {c : Code} {s0 : St} {e0 : Ex} {s1 : St} {X : Type} {F : Fam} (hF : FamOk F) (hS : SOk s0) (T : X → FSt) (μ : X → Nat) (ok : X → Prop)
    (fok : ∀ x, ok x → FOk F (T x) ∧ (T x).n ≤ 1000000)
    (init : ∃ x m ob, ok x ∧ (∀ k, k < (T x).n → ((T x).M k).objs = []) ∧ castSt (h0F F s0) m s0 (locSt F (T x) false ⟨[], []⟩ (T x).n []) = some ob ∧ ∀ p ∈ ob, p)
    (round : ∀ x, ok x → FamRound E c F s0 e0 s1 T μ ok x) : LoopHolds E.P c s0 e0 s1 := by
  intro ρ a w Q pre post
  have hlo := hS.nxt
  have hf1 : F.b0 < gnm 0 := by have := hF.hi; omega
  have hf2 := hF.lo
  have f0 : Fresh ρ s0.hp.nxt (gnm 0) := fun n h1 h2 => pre.fresh n h1 (by rw [hS.hi]; exact h2)
  have key : ∀ n x, μ x < n → ok x → ∀ ρ' a' w', GInv E.P F ρ s0 w (T x) ρ' a'.tmps.toList w' → a'.defers = [] → Code.rounds E.P c Q n a' w' := by
    intro n
    induction n with
    | zero => intro x h; omega
    | succ n IH =>
      intro x hx hok ρ' a' w' g hdef
      obtain ⟨j, wth, mb, fuel, hints, e, s', hj, rfl, hex, hobs, hend⟩ := round x hok
      obtain ⟨fx, nx⟩ := fok x hok
      obtain ⟨l1, l2, l3, l4⟩ := toLocS hF hS f0 fx nx g (pre.glob.mono g.st.le) hj hints
      have o := (all_ok hE fuel).ex _ _ _ _ hex
      rw [rounds_succ]
      refine o.wp hobs _ a' w' _ ⟨l1, hdef, l2.rep, l3, l4⟩ (fun ρ2 a2 w2 hr2 hd2 hs2 => ?_)
      have hall : s'.hp.nxt ≤ gnm 0 → StepB E.P (gnm 0) ρ s0.hp w ρ2 s'.hp w2 := fun hn => l2.trans hs2 o.mono.wr (by show s0.hp.nxt ≤ 1000; omega) hn
      rcases hend with ⟨rfl, y, wth', mb', m, ob, hy, hμ, rfl, hw', same, hc, ho⟩ | ⟨rfl, hne, m, ob, hc, ho⟩
      · have hn1 : s'.hp.nxt ≤ F.b0 := castSt_nxt hc
        have hn2 : s'.hp.nxt ≤ gnm 0 := by omega
        have all := hall hn2
        have all' : StepB E.P (gnm 0) ρ (h0F F s0) w ρ2 s'.hp w2 := ⟨all.le, all.new, all.rep, all.fr, all.own⟩
        obtain ⟨ρ3, q1, q2, q3, q4, q5, q6, q7, q8, q9, q10⟩ := castSt_okB all' (by show F.b0 ≤ gnm 0; omega) f0 hc ho hr2
        obtain ⟨fy, ny⟩ := fok y hy
        have q2' : StepB E.P (gnm 0) ρ s0.hp w ρ3 (locSt F (T y) wth' ((T y).M j) j []).hp w2 := ⟨q2.le, q2.new, q2.rep, q2.fr, q2.own⟩
        have := fromLocS hF hS f0 fx nx g hj l2.rep hs2 hn1 o.mono.wr fy ny hw' same q1 q2' q4 q7 q8 q9 q10
        exact exOf_then (fun _ => IH y (by omega) hy _ a2 w2 this hd2) (fun h => (h rfl).elim)
      · have hn1 : s'.hp.nxt ≤ s0.hp.hi := castSt_nxt hc
        have all := hall (by rw [← hS.hi]; exact hn1)
        obtain ⟨ρ3, q1, q2, q3, q4, q5, q6, q7, _⟩ := castSt_okB all (by rw [hS.hi]; exact Nat.le_refl _) f0 hc ho hr2
        refine exOf_then (fun h => (hne h).elim) (fun _ => post ρ3 a2 w2 q1 hd2 ⟨q2.le, fun n l h1 h2 => ⟨(q2.new n l h1 h2).1, ?_⟩, q2.rep, q2.fr, q2.own⟩)
        rcases q3 n l h1 h2 with h | h
        · exact h
        · have := (q2.new n l h1 h2).2
          rw [hS.hi] at h; omega
  obtain ⟨x, m, ob, hok, hno, hc, ho⟩ := init
  obtain ⟨fx, nx⟩ := fok x hok
  have st0 : StepB E.P (gnm 0) ρ (h0F F s0) w ρ s0.hp w := ⟨Le.refl ρ, fun n l h1 h2 => (by rw [h1] at h2; cases h2), pre.rep, Fr.refl _ _, fun n o l h1 h2 h3 h4 => ⟨n, o, l, h1, rfl, h2, h3, rfl, .inl rfl⟩⟩
  obtain ⟨ρ3, q1, q2, q3, q4, q5, q6, q7, q8, q9, q10⟩ := castSt_okB st0 (by show F.b0 ≤ gnm 0; omega) f0 hc ho pre.rel
  have q2' : StepB E.P (gnm 0) ρ s0.hp w ρ3 (locSt F (T x) false ⟨[], []⟩ (T x).n []).hp w := ⟨q2.le, q2.new, q2.rep, q2.fr, q2.own⟩
  have := initS hF hS f0 fx nx hno q1 q2' q7
  exact wp_loop_rounds (μ x + 1) (key (μ x + 1) x (by omega) hok _ a w this pre.defers)
end Go.Ev

/-
  A loop by an invariant over a family: rounds out of evaluations that end in a cast; rows of the array.
-/
set_option linter.unusedSimpArgs false
set_option linter.unusedVariables false
namespace Go.Ev

theorem fam_norm {E : Env} {c : Code} {F : Fam} {s0 : St} {e0 : Ex} {s1 : St} {X : Type} {T : X → FSt} {μ : X → Nat} {ok : X → Prop} {x : X} (y : X) (j : Nat) (wth wth' : Bool) {mb mb' : Mb} {fuel : Nat} {m : List (Nat × Src)} {hints : List Hint} {ob : List Prop}
    (h : roundB E fuel c (h0F F s0) m (locSt F (T x) wth mb j []) hints (locSt F (T y) wth' mb' j []) = some (.norm, ob)) (ho : ∀ p ∈ ob, p)
    (hj : wth = true → j < (T x).n) (hm : (T x).M j = mb) (hy : ok y) (hμ : μ y < μ x) (hm' : (T y).M j = mb') (hw : (wth' = true ∧ j < (T y).n) ∨ (wth' = false ∧ (T y).n ≤ j))
    (same : ∀ i, i < (T y).n → i ≠ j → i < (T x).n ∧ (T y).M i = (T x).M i) : FamRound E c F s0 e0 s1 T μ ok x := by
  obtain ⟨s', h1, h2, ob', h3, h4⟩ := roundB_spec h ho
  exact ⟨j, wth, mb, fuel, hints, .norm, s', hj, hm, h1, h2, .inl ⟨rfl, y, wth', mb', m, ob', hy, hμ, hm', hw, same, h3, h4⟩⟩

theorem fam_exit {E : Env} {c : Code} {F : Fam} {s0 : St} {e0 : Ex} {s1 : St} {X : Type} {T : X → FSt} {μ : X → Nat} {ok : X → Prop} {x : X} (j : Nat) (wth : Bool) {mb : Mb} {fuel : Nat} {m : List (Nat × Src)} {hints : List Hint} {ob : List Prop}
    (h : roundB E fuel c s0.hp m (locSt F (T x) wth mb j []) hints s1 = some (e0, ob)) (hne : e0 ≠ .norm) (ho : ∀ p ∈ ob, p)
    (hj : wth = true → j < (T x).n) (hm : (T x).M j = mb) : FamRound E c F s0 e0 s1 T μ ok x := by
  obtain ⟨s', h1, h2, ob', h3, h4⟩ := roundB_spec h ho
  exact ⟨j, wth, mb, fuel, hints, e0, s', hj, hm, h1, h2, .inr ⟨rfl, hne, m, ob', h3, h4⟩⟩

/-! ### rows of a family's array -/
theorem valV_ptr {c : CM} {n k i j : Nat} (h : c.same n k = true) : valV c (.ptr k i j) (.ptr n i j) := ⟨rfl, fun ρ x hx => by
  simp only [den] at hx ⊢
  rw [CM.same_ren h]; exact hx⟩
theorem valV_nilp {c : CM} : valV c .nilp .nilp := ⟨rfl, fun ρ x hx => hx⟩
theorem valV_eq {c : CM} {s s' t : AV} (e : s = s') (h : valV c s' t) : valV c s t := by rw [e]; exact h

/-- Another member's cell: its names lie beyond what a cast gives out. -/
theorem valV_far {c : CM} {F : Fam} {mb : Mb} (hm : MbOk F mb) {b : Nat} (hb : ∀ k, k < F.q → c.fresh (b + k) = false) {cc : Nat} {k : CK} (hk : F.sh[cc]? = some k) : valV c (mrow F.q b mb cc) (mrow F.q b mb cc) := by
  have hkd := mrow_kind hm hk b
  refine ⟨?_, fun ρ x hx => ?_⟩
  · cases k with
    | int k => obtain ⟨n, h | h⟩ := hkd <;> rw [h] <;> rfl
    | bool => obtain ⟨n, h | h⟩ := hkd <;> rw [h] <;> rfl
    | val => exact hkd
  · have := mrow_den hm (ρ := ρ) (ρ' := c.ren ρ) (b := b) (b' := b) (fun n hn => by simp [CM.ren, hb n hn]) hk
    rw [this]; exact hx

theorem rowV_of {c : CM} {f g : Nat → AV} : ∀ (sh : List CK) (j0 : Nat), (∀ (j : Nat) k, sh[j]? = some k → k = .val ∧ valV c (f (j0 + j)) (g (j0 + j))) → rowV c sh j0 f g
  | [], _, _ => trivial
  | k :: r, j0, h => by
    obtain ⟨rfl, h0⟩ := h 0 k rfl
    refine ⟨h0, rowV_of r (j0 + 1) (fun j k hk => ?_)⟩
    have := h (j + 1) k (by simpa using hk)
    rwa [show j0 + (j + 1) = j0 + 1 + j by omega] at this

/-- The rows of a family whose cells are pointers all: all rows but j's are as they were. -/
theorem fam_rows {c : CM} {F : Fam} (hv : ∀ (j : Nat) k, F.sh[j]? = some k → k = .val) (hf : c.hi ≤ F.b0) {M M' : Nat → Mb} {n n' j : Nat} {src : Nat → Nat → AV}
    (hM : ∀ i, i < n' → i ≠ j → MbOk F (M i) ∧ M' i = M i ∧ ∀ cc, src i cc = mrow F.q (F.b0 + F.q * i) (M i) cc)
    (hj : j < n' → ∀ (cc : Nat) k, F.sh[cc]? = some k → valV c (src j cc) (mrow F.q 900 (M' j) cc)) : ∀ i, i < n' → rowV c F.sh 0 (src i) (lrow F.b0 F.q M' j i) := by
  intro i hi
  refine rowV_of F.sh 0 (fun cc k hk => ⟨hv cc k hk, ?_⟩)
  rw [Nat.zero_add]
  by_cases e : i = j
  · subst e
    simp only [lrow, if_true]
    exact hj hi cc k hk
  · obtain ⟨h1, h2, h3⟩ := hM i hi e
    simp only [lrow, e, if_false]
    rw [h3 cc, h2]
    refine valV_far h1 (fun k hk => ?_) hk
    cases hfr : c.fresh (F.b0 + F.q * i + k) with
    | false => rfl
    | true => have := (CM.fresh_iff.1 hfr).2; omega
theorem lrow_j {b0 q : Nat} {M : Nat → Mb} {j c : Nat} {mb : Mb} (h : M j = mb) : lrow b0 q M j j c = mrow q 900 mb c := by simp [lrow, h]
theorem lrow_ne {b0 q : Nat} {M : Nat → Mb} {j i c : Nat} (h : i ≠ j) : lrow b0 q M j i c = mrow q (b0 + q * i) (M i) c := by simp [lrow, h]

end Go.Ev

/-
  The words of a memory, in order: plain definitions and facts.
-/
set_option linter.unusedSimpArgs false
set_option linter.unusedVariables false
namespace Go.Ev

abbrev K3 := Int × Int × Int
/-- Does a key stand ahead of another one? -/
def ltK (x y : K3) : Prop := x.1 < y.1 ∨ x.1 = y.1 ∧ (x.2.1 < y.2.1 ∨ x.2.1 = y.2.1 ∧ x.2.2 < y.2.2)
theorem ltK_irrefl (x : K3) : ¬ ltK x x := by unfold ltK; omega
theorem ltK_trans {x y z : K3} (h1 : ltK x y) (h2 : ltK y z) : ltK x z := by unfold ltK at *; omega
theorem ltK_total {x y : K3} (h1 : ¬ ltK x y) (h2 : ¬ ltK y x) : x = y := by
  unfold ltK at h1 h2
  exact Prod.ext (by omega) (Prod.ext (by omega) (by omega))

/-- A list is the words of f, in order. -/
structure IsWl (f : List Int → Option Int) (l : List (K3 × Int)) : Prop where
  sorted : l.Pairwise (fun x y => ltK x.1 y.1)
  mem : ∀ k v, (k, v) ∈ l ↔ mget f (key k.1 k.2.1 k.2.2) = v ∧ v ≠ 0

theorem sorted_eq : ∀ (l m : List (K3 × Int)), l.Pairwise (fun x y => ltK x.1 y.1) → m.Pairwise (fun x y => ltK x.1 y.1) → (∀ x, x ∈ l ↔ x ∈ m) → l = m
  | [], [], _, _, _ => rfl
  | [], y :: m, _, _, h => by have := (h y).2 (List.mem_cons_self ..); cases this
  | x :: l, [], _, _, h => by have := (h x).1 (List.mem_cons_self ..); cases this
  | x :: l, y :: m, hl, hm, h => by
    obtain ⟨a1, a2⟩ := List.pairwise_cons.1 hl
    obtain ⟨b1, b2⟩ := List.pairwise_cons.1 hm
    have exy : x = y := by
      rcases List.mem_cons.1 ((h x).1 (List.mem_cons_self ..)) with e | e
      · exact e
      · rcases List.mem_cons.1 ((h y).2 (List.mem_cons_self ..)) with e2 | e2
        · exact e2.symm
        · exact (ltK_irrefl _ (ltK_trans (a1 y e2) (b1 x e))).elim
    subst exy
    rw [sorted_eq l m a2 b2 (fun z => ?_)]
    constructor
    · intro hz
      rcases List.mem_cons.1 ((h z).1 (List.mem_cons_of_mem _ hz)) with e | e
      · subst e; exact (ltK_irrefl _ (a1 z hz)).elim
      · exact e
    · intro hz
      rcases List.mem_cons.1 ((h z).2 (List.mem_cons_of_mem _ hz)) with e | e
      · subst e; exact (ltK_irrefl _ (b1 z hz)).elim
      · exact e
theorem IsWl.unique {f : List Int → Option Int} {l m : List (K3 × Int)} (h : IsWl f l) (h' : IsWl f m) : l = m :=
  sorted_eq l m h.sorted h'.sorted (fun ⟨k, v⟩ => (h.mem k v).trans (h'.mem k v).symm)
theorem IsWl.congr {f g : List Int → Option Int} {l : List (K3 × Int)} (h : IsWl f l) (e : ∀ k a b, mget g (key k a b) = mget f (key k a b)) : IsWl g l := ⟨h.sorted, fun k v => by rw [e]; exact h.mem k v⟩

open Classical in
/-- The words of f, in order. -/
noncomputable def wlF (f : List Int → Option Int) : List (K3 × Int) := if h : ∃ l, IsWl f l then Classical.choose h else []
theorem wlF_eq {f : List Int → Option Int} {l : List (K3 × Int)} (h : IsWl f l) : wlF f = l := by
  have hex : ∃ l, IsWl f l := ⟨l, h⟩
  unfold wlF
  rw [dif_pos hex]
  exact (Classical.choose_spec hex).unique h

def wdAt (l : List (K3 × Int)) (i : Nat) : Wd := match l[i]? with
  | some x => ⟨x.1.1, x.1.2.1, x.1.2.2, x.2⟩
  | none => ⟨0, 0, 0, 0⟩

/-- It has no more than so many entries. -/
def FinM (f : List Int → Option Int) (n : Nat) : Prop := ∃ l : List (List Int), l.length ≤ n ∧ ∀ k v, f k = some v → k ∈ l
theorem FinM.nil (n : Nat) : FinM (fun _ => none) n := ⟨[], Nat.zero_le _, fun k v h => by cases h⟩
theorem FinM.mono {f : List Int → Option Int} {n m : Nat} (h : FinM f n) (hm : n ≤ m) : FinM f m := let ⟨l, h1, h2⟩ := h; ⟨l, Nat.le_trans h1 hm, h2⟩
theorem FinM.set {f : List Int → Option Int} {n : Nat} (h : FinM f n) (k : List Int) (v : Option Int) : FinM (setKey f k v) (n + 1) := by
  obtain ⟨l, h1, h2⟩ := h
  refine ⟨k :: l, by simp; omega, fun q u hq => ?_⟩
  unfold setKey at hq
  split at hq
  · rename_i e; subst e; exact List.mem_cons_self ..
  · exact List.mem_cons_of_mem _ (h2 q u hq)
theorem FinM.put {f : List Int → Option Int} {n : Nat} (h : FinM f n) (k a b v : Int) : FinM (memPut f k a b v) (n + 1) := by
  unfold memPut
  split
  · exact h.set _ _
  · exact h.mono (by omega)
theorem FinM.cas {f : List Int → Option Int} {n : Nat} (h : FinM f n) (k a b w v : Int) : FinM (casM f k a b w v) (n + 1) := by
  unfold casM
  split
  · exact h.set _ _
  · exact h.mono (by omega)

theorem nodup_len : ∀ (a b : List (List Int)), a.Nodup → (∀ x ∈ a, x ∈ b) → a.length ≤ b.length
  | [], b, _, _ => Nat.zero_le _
  | x :: r, b, hn, hs => by
    obtain ⟨h1, h2⟩ := List.nodup_cons.1 hn
    have hx := hs x (List.mem_cons_self ..)
    have := nodup_len r (b.erase x) h2 (fun y hy => (List.mem_erase_of_ne (fun e => h1 (by rw [← e]; exact hy))).2 (hs y (List.mem_cons_of_mem _ hy)))
    rw [List.length_erase_of_mem hx] at this
    have : 0 < b.length := List.length_pos_of_mem hx
    simp; omega
end Go.Ev

/-
  The document's words in order: plain definitions and facts.
-/
set_option linter.unusedSimpArgs false
set_option linter.unusedVariables false
namespace Go.Ev

instance ltK_dec (x y : K3) : Decidable (ltK x y) := by unfold ltK; infer_instance
def ltB (x y : K3) : Bool := decide (ltK x y)
def Wd.key (w : Wd) : K3 := (w.k, w.a, w.f)
def Wd.kv (w : Wd) : K3 × Int := (w.key, w.v)

/-- Where x goes. -/
def posL (x : K3) : List (K3 × Int) → Nat
  | [] => 0
  | y :: r => if ltB y.1 x = true then posL x r + 1 else 0
def insL (x : K3 × Int) : List (K3 × Int) → List (K3 × Int)
  | [] => [x]
  | y :: r => if ltB y.1 x.1 = true then y :: insL x r else x :: y :: r

theorem posL_le (x : K3) : ∀ l, posL x l ≤ l.length
  | [] => Nat.le_refl _
  | y :: r => by
    have := posL_le x r
    simp only [posL]
    split <;> simp <;> omega
theorem insL_len (x : K3 × Int) : ∀ l, (insL x l).length = l.length + 1
  | [] => rfl
  | y :: r => by
    simp only [insL]
    split
    · simp [insL_len x r]
    · simp
theorem posL_cons (x : K3) (y : K3 × Int) (r : List (K3 × Int)) : posL x (y :: r) = if ltB y.1 x = true then posL x r + 1 else 0 := rfl
theorem insL_cons (x y : K3 × Int) (r : List (K3 × Int)) : insL x (y :: r) = if ltB y.1 x.1 = true then y :: insL x r else x :: y :: r := rfl
theorem insL_get (x : K3 × Int) : ∀ (l : List (K3 × Int)) (i : Nat), (insL x l)[i]? = if i < posL x.1 l then l[i]? else if i = posL x.1 l then some x else l[i - 1]?
  | [], i => by
    cases i <;> simp [insL, posL]
  | y :: r, i => by
    by_cases h : ltB y.1 x.1 = true
    · have e1 : posL x.1 (y :: r) = posL x.1 r + 1 := by rw [posL_cons, if_pos h]
      have e2 : insL x (y :: r) = y :: insL x r := by rw [insL_cons, if_pos h]
      simp only [e1, e2]
      cases i with
      | zero => simp
      | succ i =>
        rw [List.getElem?_cons_succ, insL_get x r i]
        by_cases h1 : i < posL x.1 r
        · have h1' : i + 1 < posL x.1 r + 1 := by omega
          simp [h1, h1']
        · have h1' : ¬ i + 1 < posL x.1 r + 1 := by omega
          by_cases h2 : i = posL x.1 r
          · simp [h2]
          · have h2' : ¬ i + 1 = posL x.1 r + 1 := by omega
            obtain ⟨k, rfl⟩ : ∃ k, i = k + 1 := ⟨i - 1, by omega⟩
            simp [h1, h1', h2, h2']
    · have e1 : posL x.1 (y :: r) = 0 := by rw [posL_cons, if_neg h]
      have e2 : insL x (y :: r) = x :: y :: r := by rw [insL_cons, if_neg h]
      simp only [e1, e2]
      cases i with
      | zero => simp
      | succ i => simp
theorem posL_lt {x : K3} : ∀ {l : List (K3 × Int)} {i : Nat}, i < posL x l → ∃ y, l[i]? = some y ∧ ltB y.1 x = true
  | [], i, h => by simp [posL] at h
  | y :: r, i, h => by
    rw [posL_cons] at h
    by_cases hy : ltB y.1 x = true
    · rw [if_pos hy] at h
      cases i with
      | zero => exact ⟨y, by simp, hy⟩
      | succ i => obtain ⟨z, h1, h2⟩ := posL_lt (x := x) (l := r) (i := i) (by omega); exact ⟨z, by simpa using h1, h2⟩
    · rw [if_neg hy] at h; omega
theorem posL_at {x : K3} : ∀ {l : List (K3 × Int)} {y}, l[posL x l]? = some y → ltB y.1 x = false
  | [], y, h => by simp at h
  | z :: r, y, h => by
    rw [posL_cons] at h
    by_cases hy : ltB z.1 x = true
    · rw [if_pos hy, List.getElem?_cons_succ] at h
      exact posL_at h
    · rw [if_neg hy] at h
      simp at h; subst h; simpa using hy

theorem insL_mem (x : K3 × Int) : ∀ l y, y ∈ insL x l ↔ y = x ∨ y ∈ l
  | [], y => by simp [insL]
  | z :: r, y => by
    simp only [insL]
    split
    · simp only [List.mem_cons, insL_mem x r]
      constructor
      · rintro (h | h | h) <;> simp [h]
      · rintro (h | h | h) <;> simp [h]
    · simp
theorem insL_sorted (x : K3 × Int) : ∀ l, l.Pairwise (fun a b => ltK a.1 b.1) → (∀ y ∈ l, y.1 ≠ x.1) → (insL x l).Pairwise (fun a b => ltK a.1 b.1)
  | [], _, _ => by simp [insL]
  | z :: r, h, hn => by
    obtain ⟨h1, h2⟩ := List.pairwise_cons.1 h
    simp only [insL]
    split
    · rename_i hz
      refine List.pairwise_cons.2 ⟨fun y hy => ?_, insL_sorted x r h2 (fun y hy => hn y (List.mem_cons_of_mem _ hy))⟩
      rcases (insL_mem x r y).1 hy with rfl | hy
      · exact of_decide_eq_true hz
      · exact h1 y hy
    · rename_i hz
      have hz : ¬ ltK z.1 x.1 := by simpa [ltB] using hz
      have hx : ltK x.1 z.1 := by
        by_cases e : ltK x.1 z.1
        · exact e
        · exact (hn z (List.mem_cons_self ..) (ltK_total hz e)).elim
      refine List.pairwise_cons.2 ⟨fun y hy => ?_, h⟩
      rcases List.mem_cons.1 hy with rfl | hy
      · exact hx
      · exact ltK_trans hx (h1 y hy)

/-- The first i words, those that are not 0, in order. -/
def rwl (D : DM) : Nat → List (K3 × Int)
  | 0 => []
  | i + 1 => if (D.W i).v = 0 then rwl D i else insL (D.W i).kv (rwl D i)
theorem rwl_len (D : DM) : ∀ i, (rwl D i).length ≤ i
  | 0 => Nat.le_refl _
  | i + 1 => by
    have := rwl_len D i
    simp only [rwl]
    split
    · omega
    · rw [insL_len]; omega
theorem rwl_mem (D : DM) : ∀ i y, y ∈ rwl D i ↔ ∃ j, j < i ∧ (D.W j).kv = y ∧ (D.W j).v ≠ 0
  | 0, y => by simp [rwl]
  | i + 1, y => by
    simp only [rwl]
    split
    · rename_i h0
      rw [rwl_mem D i]
      constructor
      · rintro ⟨j, h1, h2⟩; exact ⟨j, by omega, h2⟩
      · rintro ⟨j, h1, h2, h3⟩
        by_cases e : j = i
        · subst e; exact (h3 h0).elim
        · exact ⟨j, by omega, h2, h3⟩
    · rename_i h0
      rw [insL_mem, rwl_mem D i]
      constructor
      · rintro (rfl | ⟨j, h1, h2⟩)
        · exact ⟨i, by omega, rfl, h0⟩
        · exact ⟨j, by omega, h2⟩
      · rintro ⟨j, h1, h2, h3⟩
        by_cases e : j = i
        · subst e; exact .inl h2.symm
        · exact .inr ⟨j, by omega, h2, h3⟩

/-- No key stands there twice. -/
def DD (D : DM) : Prop := ∀ i j, i < D.n → j < D.n → (D.W i).key = (D.W j).key → i = j
theorem rwl_sorted {D : DM} (h : DD D) : ∀ i, i ≤ D.n → (rwl D i).Pairwise (fun a b => ltK a.1 b.1)
  | 0, _ => List.Pairwise.nil
  | i + 1, hi => by
    simp only [rwl]
    split
    · exact rwl_sorted h i (by omega)
    · refine insL_sorted _ _ (rwl_sorted h i (by omega)) (fun y hy e => ?_)
      obtain ⟨j, h1, rfl, _⟩ := (rwl_mem D i y).1 hy
      have := h j i (by omega) (by omega) e
      omega
theorem dWord_of {D : DM} (h : DD D) {j : Nat} (hj : j < D.n) : dWord D (D.W j).k (D.W j).a (D.W j).f = (D.W j).v := by
  rcases first_hit D (D.W j).k (D.W j).a (D.W j).f with q | ⟨i, q1, q2, q3⟩
  · have := q j hj
    rw [Nat.zero_add] at this
    rw [hit_iff.2 ⟨rfl, rfl, rfl⟩] at this; cases this
  · rw [dWord_at q1 q2 q3, Nat.zero_add]
    rw [Nat.zero_add] at q2
    obtain ⟨e1, e2, e3⟩ := hit_iff.1 q2
    have : i = j := h i j q1 hj (by simp [Wd.key, e1, e2, e3])
    rw [this]
theorem rwl_isWl {D : DM} {M : List Int → Option Int} (h : DD D) (a : Agr M D) : IsWl M (rwl D D.n) := by
  refine ⟨rwl_sorted h D.n (Nat.le_refl _), fun k v => ?_⟩
  rw [rwl_mem, a]
  obtain ⟨k1, k2, k3⟩ := k
  constructor
  · rintro ⟨j, hj, e, hv⟩
    simp only [Wd.kv, Wd.key, Prod.mk.injEq] at e
    obtain ⟨⟨e1, e2, e3⟩, e4⟩ := e
    subst e1; subst e2; subst e3; subst e4
    exact ⟨dWord_of h hj, hv⟩
  · rintro ⟨e, hv⟩
    rcases first_hit D k1 k2 k3 with q | ⟨i, q1, q2, q3⟩
    · rw [dWord_no q] at e; exact (hv e.symm).elim
    · rw [dWord_at q1 q2 q3, Nat.zero_add] at e
      rw [Nat.zero_add] at q2
      obtain ⟨e1, e2, e3⟩ := hit_iff.1 q2
      exact ⟨i, q1, by simp [Wd.kv, Wd.key, e1, e2, e3, e], by rw [e]; exact hv⟩
theorem wlF_rwl {D : DM} {M : List Int → Option Int} (h : DD D) (a : Agr M D) : wlF M = rwl D D.n := wlF_eq (rwl_isWl h a)

theorem DD.put {D : DM} (h : DD D) (k a f v : Int) : DD (dPut D k a f v) := by
  cases hm : mayA k a f with
  | false => rw [dPut_may hm]; exact h
  | true =>
    rcases first_hit D k a f with q | ⟨j, q1, q2, q3⟩
    · rw [dPut_no hm q]
      intro i i' hi hi' e
      simp only [dAdd] at hi hi' e
      have key : ∀ i, i < D.n → (D.W i).key ≠ (k, a, f) := fun i hi e => by
        have := q i hi
        rw [Nat.zero_add] at this
        simp only [Wd.key, Prod.mk.injEq] at e
        rw [hit_iff.2 e] at this; cases this
      by_cases h1 : i < D.n
      · by_cases h2 : i' < D.n
        · rw [if_pos h1, if_pos h2] at e; exact h i i' h1 h2 e
        · rw [if_pos h1, if_neg h2] at e; exact (key i h1 e).elim
      · by_cases h2 : i' < D.n
        · rw [if_neg h1, if_pos h2] at e; exact (key i' h2 e.symm).elim
        · omega
    · rw [dPut_at hm q1 q2 q3]
      intro i i' hi hi' e
      refine h i i' hi hi' ?_
      have : ∀ i, ((dSet D j v).W i).key = (D.W i).key := fun i => by
        simp only [dSet]
        split <;> rfl
      rwa [this, this] at e
theorem DD.cas {D : DM} (h : DD D) (k a f w v : Int) : DD (dCasM D k a f w v) := by
  unfold dCasM
  split
  · exact h.put k a f v
  · exact h
theorem DD.nil : DD ⟨0, fun _ => ⟨0, 0, 0, 0⟩⟩ := fun i j hi => absurd hi (Nat.not_lt_zero i)

/-- What the loop over all acts keeps. -/
structure Fine (S : MS) (R : RS) (n : Nat) : Prop where
  both : Both S R
  dd : DD R.D
  fin : FinM S.M n
  num : R.D.n ≤ n
theorem Fine.store {S : MS} {R : RS} {n : Nat} (h : Fine S R n) (k a f v : Int) : Fine (mStore S k a f v) (rStore R k a f v) (n + 1) :=
  ⟨h.both.store k a f v, h.dd.put k a f v, h.fin.put k a f v, by have := (dPut_n R.D k a f v).1; have := h.num; show (dPut R.D k a f v).n ≤ n + 1; omega⟩
theorem Fine.mono {S : MS} {R : RS} {n m : Nat} (h : Fine S R n) (hm : n ≤ m) : Fine S R m := ⟨h.both, h.dd, h.fin.mono hm, Nat.le_trans h.num hm⟩
theorem Fine.load {S : MS} {R : RS} {n : Nat} (h : Fine S R n) (k a f : Int) : Fine (mLoad S k a f) (rLoad R k a f) n := ⟨h.both.load k a f, h.dd, h.fin, h.num⟩
theorem dCasM_n (D : DM) (k a f w v : Int) : (dCasM D k a f w v).n ≤ D.n + 1 := by
  unfold dCasM
  split
  · exact (dPut_n D k a f v).1
  · omega
theorem Fine.cas {S : MS} {R : RS} {n : Nat} (h : Fine S R n) (k a f w v : Int) : Fine (mCas S k a f w v) (rCas R k a f w v) (n + 1) :=
  ⟨h.both.cas k a f w v, h.dd.cas k a f w v, h.fin.cas k a f w v, by have := dCasM_n R.D k a f w v; have := h.num; show (dCasM R.D k a f w v).n ≤ n + 1; omega⟩
theorem Fine.nil : Fine ms0 rs0 0 := ⟨Both.nil, DD.nil, FinM.nil 0, Nat.le_refl _⟩
theorem fineN (W : Nat → Wd) : ∀ n, Fine (msN W n) (rsN W n) n
  | 0 => Fine.nil
  | n + 1 => (fineN W n).store ..

/-- The document's memory out of its cells. -/
def mkR (n : Nat) (g : Nat → Nat → AV) (s2 : Int) (L2 : LS) : RS := ⟨dOf n g, s2, L2⟩
theorem mkR_self (R : RS) : mkR R.D.n (wdF R.D.W) R.st R.L = R := rfl

/-! ### rows -/
theorem rowsOf_w (k a f v : Int) : rowsOf 4 [.sym .u8 k, .sym .i64 a, .sym .i64 f, .sym .u64 v] 0 = wdR ⟨k, a, f, v⟩ := by
  funext j
  match j with
  | 0 => rfl
  | 1 => rfl
  | 2 => rfl
  | 3 => rfl
  | j + 4 => simp [rowsOf, nth, wdR]
end Go.Ev

/-
  Families of operations over both memories: what every '..Play' law needs, once.
  O: an operation's state; mb: its row and its blocks; a round adds one, stores a word, or takes a step of one.
-/
set_option linter.unusedSimpArgs false
set_option linter.unusedVariables false
namespace Go.Ev

/-! ### memories of u64 -/
def U64 (S : MS) : Prop := ∀ k, 0 ≤ mget S.M k ∧ mget S.M k < 18446744073709551616
theorem w64_r (e : Int) : 0 ≤ IntKind.u64.wrap e ∧ IntKind.u64.wrap e < 18446744073709551616 := by
  show 0 ≤ e % 18446744073709551616 ∧ e % 18446744073709551616 < 18446744073709551616
  omega
theorem mset_r {M : List Int → Option Int} {k : List Int} {v : Int} (h : ∀ k, 0 ≤ mget M k ∧ mget M k < 18446744073709551616) (hv : 0 ≤ v ∧ v < 18446744073709551616) : ∀ q, 0 ≤ mget (setKey M k (some v)) q ∧ mget (setKey M k (some v)) q < 18446744073709551616 := by
  intro q
  unfold mget setKey
  by_cases e : q = k
  · simp only [e, if_true]; exact hv
  · simp only [e, if_false]; exact h q
theorem U64.store {S : MS} (h : U64 S) (k a f v : Int) (hv : 0 ≤ v ∧ v < 18446744073709551616) : U64 (mStore S k a f v) := by
  unfold U64 mStore memPut
  cases mayA k a f with
  | true => exact mset_r h hv
  | false => exact h
theorem U64.cas {S : MS} (h : U64 S) (k a f w v : Int) (hv : 0 ≤ v ∧ v < 18446744073709551616) : U64 (mCas S k a f w v) := by
  unfold U64 mCas casM
  cases casD S.M k a f w with
  | true => exact mset_r h hv
  | false => exact h
theorem U64.load {S : MS} (h : U64 S) (k a f : Int) : U64 (mLoad S k a f) := h
theorem U64.nil : U64 ms0 := fun k => ⟨Int.le_refl _, by show (0 : Int) < _; decide⟩
structure Fin2 (S : MS) (R : RS) (n : Nat) : Prop where
  fine : Fine S R n
  u : U64 S
theorem Fin2.load {S : MS} {R : RS} {n : Nat} (h : Fin2 S R n) (k a f : Int) : Fin2 (mLoad S k a f) (rLoad R k a f) (n + 1) := ⟨(h.fine.load k a f).mono (by omega), h.u⟩
theorem Fin2.store {S : MS} {R : RS} {n : Nat} (h : Fin2 S R n) (k a f v : Int) (hv : 0 ≤ v ∧ v < 18446744073709551616) : Fin2 (mStore S k a f v) (rStore R k a f v) (n + 1) := ⟨h.fine.store k a f v, h.u.store k a f v hv⟩
theorem Fin2.cas {S : MS} {R : RS} {n : Nat} (h : Fin2 S R n) (k a f w v : Int) (hv : 0 ≤ v ∧ v < 18446744073709551616) : Fin2 (mCas S k a f w v) (rCas R k a f w v) (n + 1) := ⟨h.fine.cas k a f w v, h.u.cas k a f w v hv⟩
theorem Fin2.one {S : MS} {R : RS} {n : Nat} (h : Fin2 S R n) : Fin2 S R (n + 1) := ⟨h.fine.mono (by omega), h.u⟩
theorem Fin2.mono {S : MS} {R : RS} {n k : Nat} (h : Fin2 S R n) (hk : n ≤ k) : Fin2 S R k := ⟨h.fine.mono hk, h.u⟩
theorem msN_u {W : Nat → Wd} : ∀ n, (∀ i, i < n → 0 ≤ (W i).v ∧ (W i).v < 18446744073709551616) → U64 (msN W n)
  | 0, _ => U64.nil
  | n + 1, h => U64.store (msN_u n (fun i hi => h i (by omega))) _ _ _ _ (by rw [Nat.zero_add]; exact h n (by omega))
/-- Which operation takes a step. -/
def jX (r : Nat → AV) (n : Nat) : Nat := ((IntKind.u64.wrap (avInt (r 1))).tmod (IntKind.u64.wrap (Int.ofNat n))).toNat
theorem jX_lt (r : Nat → AV) {n : Nat} (h0 : n ≠ 0) (h1 : n ≤ 1000) : jX r n < n ∧ 0 ≤ (IntKind.u64.wrap (avInt (r 1))).tmod (IntKind.u64.wrap (Int.ofNat n)) := by
  have hn : IntKind.u64.wrap (Int.ofNat n) = (n : Int) := u64w (by simp) (by simp; omega)
  have hw := (w64_r (avInt (r 1))).1
  unfold jX
  rw [hn, Int.tmod_eq_emod_of_nonneg hw]
  have a := Int.emod_nonneg (IntKind.u64.wrap (avInt (r 1))) (b := (n : Int)) (by omega)
  have b := Int.emod_lt_of_pos (IntKind.u64.wrap (avInt (r 1))) (b := (n : Int)) (by omega)
  omega
/-- .. of a number that is a uint already. -/
def jU (r : Nat → AV) (n : Nat) : Nat := ((avInt (r 1)).tmod (IntKind.u64.wrap (Int.ofNat n))).toNat
theorem jU_lt {r : Nat → AV} (hr : 0 ≤ avInt (r 1)) {n : Nat} (h0 : n ≠ 0) (h1 : n ≤ 1000) : jU r n < n ∧ 0 ≤ (avInt (r 1)).tmod (IntKind.u64.wrap (Int.ofNat n)) := by
  have hn : IntKind.u64.wrap (Int.ofNat n) = (n : Int) := u64w (by simp) (by simp; omega)
  unfold jU
  rw [hn, Int.tmod_eq_emod_of_nonneg hr]
  have a := Int.emod_nonneg (avInt (r 1)) (b := (n : Int)) (by omega)
  have b := Int.emod_lt_of_pos (avInt (r 1)) (b := (n : Int)) (by omega)
  omega
def ltAll : List (Nat × AO) → Bool
  | [] => true
  | (n, _) :: r => match Nat.blt n 900 with
    | true => ltAll r
    | false => match Nat.ble (gnm 0) n with
      | true => ltAll r
      | false => false
theorem ltAll_get : ∀ (l : List (Nat × AO)), ltAll l = true → ∀ n o, get l n = some o → n < 900 ∨ gnm 0 ≤ n
  | [], _, n, o, h => by simp [Go.Ev.get] at h
  | (k, p) :: r, hl, n, o, h => by
    simp only [ltAll] at hl
    split at hl
    · rename_i hk
      rcases get_cons h with ⟨rfl, rfl⟩ | ⟨_, h⟩
      · exact .inl (by simpa [Nat.blt_eq] using hk)
      · exact ltAll_get r hl n o h
    · split at hl
      · rename_i hk
        rcases get_cons h with ⟨rfl, rfl⟩ | ⟨_, h⟩
        · exact .inr (Nat.le_of_ble_eq_true hk)
        · exact ltAll_get r hl n o h
      · cases hl
theorem eqF {a b : Int} (h : ¬ a = b) : (a == b) = false := by simpa using h
theorem eqT {a b : Int} (h : a = b) : (a == b) = true := by simpa using h
theorem z0 : (0 : Int) ≤ 0 ∧ (0 : Int) < 18446744073709551616 := by decide
theorem allVal {sh : List CK} (h : ∀ k ∈ sh, k = .val) : ∀ (j : Nat) k, sh[j]? = some k → k = .val := fun j k e => h k (List.mem_of_getElem? e)
def valAll : List CK → Bool
  | [] => true
  | .val :: r => valAll r
  | _ :: _ => false
theorem valAll_ok : ∀ {sh : List CK}, valAll sh = true → ∀ (j : Nat) k, sh[j]? = some k → k = .val
  | [], _, j, k, e => by simp at e
  | .val :: r, h, 0, k, e => by simp at e; exact e.symm
  | .val :: r, h, j + 1, k, e => valAll_ok (sh := r) h j k (by simpa using e)
  | .int _ :: r, h, _, _, _ => by simp [valAll] at h
  | .bool :: r, h, _, _, _ => by simp [valAll] at h

/-! ### the loop's state -/
structure GX (O : Type) where
  S : MS
  R : RS
  n : Nat
  O : Nat → O
section
variable {O : Type}
def gAdd (x : GX O) (o : O) : GX O := ⟨x.S, x.R, x.n + 1, fun i => if i = x.n then o else x.O i⟩
def gSto (x : GX O) (k a f v : Int) : GX O := ⟨mStore x.S k a f v, rStore x.R k a f v, x.n, x.O⟩
def gPut (x : GX O) (S : MS) (R : RS) (j : Nat) (o : O) : GX O := ⟨S, R, x.n, fun i => if i = j then o else x.O i⟩
structure GIv (ok : O → Prop) (x : GX O) (i q : Nat) : Prop where
  f : Fin2 x.S x.R (q + i)
  n : x.n ≤ i
  o : ∀ j, ok (x.O j)
variable {ok : O → Prop} {x : GX O} {i q : Nat}
theorem GIv.add (h : GIv ok x i q) {o : O} (ho : ok o) : GIv ok (gAdd x o) (i + 1) q := ⟨h.f.one, Nat.succ_le_succ h.n, fun j => by
  show ok (if j = x.n then o else x.O j)
  split
  · exact ho
  · exact h.o j⟩
theorem GIv.sto (h : GIv ok x i q) (k a f : Int) {v : Int} (hv : 0 ≤ v ∧ v < 18446744073709551616) : GIv ok (gSto x k a f v) (i + 1) q := ⟨h.f.store k a f v hv, Nat.le_succ_of_le h.n, h.o⟩
theorem GIv.idle (h : GIv ok x i q) : GIv ok x (i + 1) q := ⟨h.f.one, Nat.le_succ_of_le h.n, h.o⟩
theorem GIv.put (h : GIv ok x i q) {S : MS} {R : RS} (hf : Fin2 S R (q + i + 1)) (j : Nat) {o : O} (ho : ok o) : GIv ok (gPut x S R j o) (i + 1) q := ⟨hf, Nat.le_succ_of_le h.n, fun k => by
  show ok (if k = j then o else x.O k)
  split
  · exact ho
  · exact h.o k⟩
end

/-! ### rows of pointers -/
/-- A source row's cells and a member's: pointers to the same blocks. -/
def cellsSame (c : CM) : List AV → List AV → Bool
  | [], [] => true
  | .nilp :: r, .nilp :: t => cellsSame c r t
  | .ptr a 0 0 :: r, .ptr k 0 0 :: t => match c.same (900 + k) a with
    | true => cellsSame c r t
    | false => false
  | _, _ => false
/-- A member's cells: pointers to its own blocks, or nil. -/
def cellsOk (q : Nat) : List AV → Bool
  | [] => true
  | .nilp :: r => cellsOk q r
  | .ptr k 0 0 :: r => match Nat.blt k q with
    | true => cellsOk q r
    | false => false
  | _ => false
theorem cellsOk_get {q : Nat} : ∀ {l : List AV}, cellsOk q l = true → ∀ c, c < l.length → ∃ v, nth l c = some v ∧ (v = .nilp ∨ ∃ k, k < q ∧ v = .ptr k 0 0)
  | [], _, c, h => by simp at h
  | .nilp :: r, hk, 0, _ => ⟨_, rfl, .inl rfl⟩
  | .nilp :: r, hk, c + 1, h => cellsOk_get (l := r) hk c (by simpa using h)
  | .ptr k 0 0 :: r, hk, 0, _ => by
    simp only [cellsOk] at hk
    split at hk
    · rename_i hb
      exact ⟨_, rfl, .inr ⟨k, by simpa [Nat.blt_eq] using hb, rfl⟩⟩
    · cases hk
  | .ptr k 0 0 :: r, hk, c + 1, h => by
    simp only [cellsOk] at hk
    split at hk
    · exact cellsOk_get (l := r) hk c (by simpa using h)
    · cases hk
theorem mvV_ptr {q b k : Nat} (h : k < q) : mvV q b (.ptr k 0 0) = .ptr (b + k) 0 0 := by
  have : Nat.blt k q = true := by simpa [Nat.blt_eq] using h
  simp [mvV, renV, sft, this]
theorem okV_ptr {q k : Nat} (h : k < q) : okV q (.ptr k 0 0) := fun b => by
  have : Nat.blt k q = true := by simpa [Nat.blt_eq] using h
  exact ⟨.ptr (b + k) 0 0, by simp [renV, sft, this]⟩
theorem okV_nilp {q : Nat} : okV q .nilp := fun b => ⟨.nilp, rfl⟩
theorem cellsSame_val {c : CM} {q : Nat} : ∀ {l t : List AV}, cellsSame c l t = true → cellsOk q t = true → ∀ cc, cc < t.length → ∃ v u, nth l cc = some v ∧ nth t cc = some u ∧ valV c v (mvV q 900 u)
  | [], [], _, _, cc, h => by simp at h
  | .nilp :: r, .nilp :: t, hs, hk, 0, _ => ⟨_, _, rfl, rfl, valV_nilp⟩
  | .nilp :: r, .nilp :: t, hs, hk, cc + 1, h => cellsSame_val (l := r) (t := t) hs hk cc (by simpa using h)
  | .ptr a 0 0 :: r, .ptr k 0 0 :: t, hs, hk, 0, _ => by
    simp only [cellsSame] at hs
    simp only [cellsOk] at hk
    split at hs
    · rename_i h1
      split at hk
      · rename_i h2
        refine ⟨_, _, rfl, rfl, ?_⟩
        rw [mvV_ptr (by simpa [Nat.blt_eq] using h2)]
        exact valV_ptr h1
      · cases hk
    · cases hs
  | .ptr a 0 0 :: r, .ptr k 0 0 :: t, hs, hk, cc + 1, h => by
    simp only [cellsSame] at hs
    simp only [cellsOk] at hk
    split at hs
    · split at hk
      · exact cellsSame_val (l := r) (t := t) hs hk cc (by simpa using h)
      · cases hk
    · cases hs
  | [], x :: r, hs, _, _, _ => by cases x <;> simp [cellsSame] at hs
/-- A member's own blocks are theirs behind a round. -/
def selfSame (c : CM) : Nat → Bool
  | 0 => true
  | k + 1 => match c.same (900 + k) (900 + k) with
    | true => selfSame c k
    | false => false
theorem selfSame_get {c : CM} : ∀ {q : Nat}, selfSame c q = true → ∀ k, k < q → c.same (900 + k) (900 + k) = true
  | 0, _, k, h => absurd h (Nat.not_lt_zero k)
  | q + 1, hs, k, h => by
    simp only [selfSame] at hs
    split at hs
    · rename_i h1
      rcases Nat.lt_or_ge k q with e | e
      · exact selfSame_get hs k e
      · obtain rfl : k = q := by omega
        exact h1
    · cases hs
def objsOk (q : Nat) : List (Nat × AO) → Bool
  | [] => true
  | (n, o) :: r => match Nat.blt n q with
    | true => objsOk q r
    | false => false
structure MbF (F : Fam) (m : Mb) : Prop where
  len : m.cells.length = F.wd
  cells : cellsOk F.q m.cells = true
  objs : ∀ c o, get m.objs c = some o → c < F.q ∧ okO F.q o
theorem mbOk_of {F : Fam} (hF : F.sh.length = F.wd) (hV : valAll F.sh = true) {m : Mb} (h : MbF F m) : MbOk F m := by
  refine ⟨fun c k hk => ?_, h.objs⟩
  have e := valAll_ok hV c k hk
  subst e
  have hc : c < m.cells.length := by rw [h.len, ← hF]; exact (List.getElem?_eq_some_iff.1 hk).1
  obtain ⟨v, h1, h2⟩ := cellsOk_get h.cells c hc
  refine ⟨v, h1, ?_, ?_⟩
  · rcases h2 with rfl | ⟨k, hk, rfl⟩
    · exact okV_nilp
    · exact okV_ptr hk
  · rcases h2 with rfl | ⟨k, hk, rfl⟩ <;> rfl
theorem obj2 {q : Nat} {o0 o1 : AO} (hq : 2 ≤ q) (h0 : okO q o0) (h1 : okO q o1) : ∀ c o, get [(0, o0), (1, o1)] c = some o → c < q ∧ okO q o := by
  intro c o h
  rcases get_cons h with ⟨rfl, rfl⟩ | ⟨_, h⟩
  · exact ⟨by omega, h0⟩
  · rcases get_cons h with ⟨rfl, rfl⟩ | ⟨_, h⟩
    · exact ⟨by omega, h1⟩
    · simp [Go.Ev.get] at h

section
variable {F : Fam} (hF : F.sh.length = F.wd) (hV : valAll F.sh = true) {M M' : Nat → Mb} {n : Nat} (hM : ∀ i, MbF F (M i)) {c : CM} (hc : c.hi = F.b0)
include hF hV hM hc
/-- A member's step: its row stays. -/
theorem fg_do {j : Nat} (hj : (M' j).cells = (M j).cells) (hne : ∀ i, i ≠ j → M' i = M i) (hs : selfSame c F.q = true) {n' : Nat} : ∀ i, i < n' → rowV c F.sh 0 (lrow F.b0 F.q M j i) (lrow F.b0 F.q M' j i) := by
  refine fam_rows (n := 0) (valAll_ok hV) (by rw [hc]; exact Nat.le_refl _) (M := M) (fun i hi h => ⟨mbOk_of hF hV (hM i), hne i h, fun cc => lrow_ne h⟩) (fun _ cc k hk => ?_)
  have hcc : cc < (M j).cells.length := by rw [(hM j).len, ← hF]; exact (List.getElem?_eq_some_iff.1 hk).1
  rw [lrow_j rfl]
  obtain ⟨v, h2, hq⟩ := cellsOk_get (hM j).cells cc hcc
  have e1 : mrow F.q 900 (M j) cc = mvV F.q 900 v := by unfold mrow; rw [h2]
  have e2 : mrow F.q 900 (M' j) cc = mvV F.q 900 v := by unfold mrow; rw [hj, h2]
  rw [e1, e2]
  rcases hq with rfl | ⟨k, hk, rfl⟩
  · exact valV_nilp
  · rw [mvV_ptr hk]
    exact valV_ptr (selfSame_get hs k hk)
theorem fg_no {j : Nat} (hj : n ≤ j) (hO : ∀ i, M' i = M i) : ∀ i, i < n → rowV c F.sh 0 (lrow F.b0 F.q M j i) (lrow F.b0 F.q M' j i) :=
  fam_rows (n := 0) (valAll_ok hV) (by rw [hc]; exact Nat.le_refl _) (M := M) (fun i hi h => ⟨mbOk_of hF hV (hM i), hO i, fun cc => lrow_ne h⟩) (fun h cc k hk => by omega)
theorem fg_add {l t : List AV} (h' : MbF F (M' n)) (ht : (M' n).cells = t) (hs : cellsSame c l t = true) (hne : ∀ i, i ≠ n → M' i = M i) : ∀ i, i < n + 1 → rowV c F.sh 0 (fun j => if i < n then lrow F.b0 F.q M n (0 + i) j else rowsOf F.wd l (i - n) j) (lrow F.b0 F.q M' n i) := by
  refine fam_rows (n := 0) (valAll_ok hV) (by rw [hc]; exact Nat.le_refl _) (M := M) (src := fun i j => if i < n then lrow F.b0 F.q M n (0 + i) j else rowsOf F.wd l (i - n) j) (fun i hi h => ⟨mbOk_of hF hV (hM i), hne i h, fun cc => ?_⟩) (fun _ cc k hk => ?_)
  · show (if i < n then _ else _) = _
    rw [if_pos (by omega), Nat.zero_add]
    exact lrow_ne h
  · show valV c (if n < n then _ else _) _
    rw [if_neg (Nat.lt_irrefl _), Nat.sub_self]
    have hcc : cc < (M' n).cells.length := by rw [h'.len, ← hF]; exact (List.getElem?_eq_some_iff.1 hk).1
    subst ht
    obtain ⟨v, u, h1, h2, h3⟩ := cellsSame_val hs h'.cells cc hcc
    have e2 : mrow F.q 900 (M' n) cc = mvV F.q 900 u := by unfold mrow; rw [h2]
    rw [e2]
    refine valV_eq ?_ h3
    simp [rowsOf, h1]
end
end Go.Ev

/-
  A contract over closed values serves symbolic ones that are those very values.
-/
set_option linter.unusedSimpArgs false
set_option linter.unusedVariables false
namespace Go.Ev

mutual
def symV : AV → AV
  | .int k n => .sym k n
  | .bool b => .symb b
  | .agg l => .agg (symL l)
  | .tup l => .tup (symL l)
  | v => v
def symL : List AV → List AV
  | [] => []
  | v :: r => symV v :: symL r
end
mutual
theorem symV_den {ρ : Ren} : ∀ (v : AV), den ρ (symV v) = den ρ v
  | .top => rfl
  | .int .. => rfl
  | .sym .. => rfl
  | .bool .. => rfl
  | .symb .. => rfl
  | .nilp => rfl
  | .ptr .. => rfl
  | .nils => rfl
  | .xs .. => rfl
  | .ss .. => rfl
  | .nilm => rfl
  | .map .. => rfl
  | .nilf => rfl
  | .func .. => rfl
  | .nili => rfl
  | .iface .. => rfl
  | .agg l => by simp only [symV, den, symL_den l]
  | .tup l => by simp only [symV, den, symL_den l]
  | .stamp .. => rfl
  | .raw .. => rfl
theorem symL_den {ρ : Ren} : ∀ (l : List AV), denL ρ (symL l) = denL ρ l
  | [] => rfl
  | v :: r => by simp only [symL, denL, symV_den v, symL_den r]
end
theorem symV_top : ∀ {v : AV}, symV v = .top → v = .top
  | .top, _ => rfl
  | .int .., h => by cases h
  | .sym .., h => by cases h
  | .bool .., h => by cases h
  | .symb .., h => by cases h
  | .nilp, h => by cases h
  | .ptr .., h => by cases h
  | .nils, h => by cases h
  | .xs .., h => by cases h
  | .ss .., h => by cases h
  | .nilm, h => by cases h
  | .map .., h => by cases h
  | .nilf, h => by cases h
  | .func .., h => by cases h
  | .nili, h => by cases h
  | .iface .., h => by cases h
  | .agg l, h => by simp only [symV] at h; cases h
  | .tup l, h => by simp only [symV] at h; cases h
  | .stamp .., h => by cases h
  | .raw .., h => by cases h
def symO : AO → AO
  | .cells wd l => .cells wd (symL l)
  | o => o
theorem symO_ro (o : AO) : (symO o).ro = o.ro := by cases o <;> rfl
theorem symL_get : ∀ (l : List AV) (j : Nat) v, l[j]? = some v → (symL l)[j]? = some (symV v)
  | [], j, v, h => by simp at h
  | a :: r, 0, v, h => by simp at h; simp [symL, h]
  | a :: r, j + 1, v, h => by simp at h; simp [symL]; exact symL_get r j v h
theorem symL_length : ∀ l : List AV, (symL l).length = l.length
  | [] => rfl
  | a :: r => by simp [symL, symL_length r]
theorem symO_rep {P : Program} {ρ : Ren} {w : World} {l : Loc} {o : AO} (h : ObjRep P ρ w l (symO o)) : ObjRep P ρ w l o := by
  cases o with
  | cells wd cs =>
    obtain ⟨h0, h1, h2, c, t, fr, hb, hf, hc, hc2, hv⟩ := h
    refine ⟨h0, h1, h2, c, t, fr, hb, hf, by rw [symL_length] at hc; exact hc, hc2, fun j v hj => ?_⟩
    obtain ⟨x, hx, hr⟩ := hv j _ (symL_get cs j v hj)
    refine ⟨x, hx, ?_⟩
    rcases hr with hr | hr
    · exact .inl (symV_top hr)
    · exact .inr (by rw [← symV_den]; exact hr)
  | arr wd sh ro len f => exact h
  | map t f => exact h
  | mapP t f n k => exact h
def symH : List (Nat × AO) → List (Nat × AO)
  | [] => []
  | (n, o) :: r => (n, symO o) :: symH r
theorem symH_get : ∀ (h : List (Nat × AO)) (n : Nat) o, get h n = some o → get (symH h) n = some (symO o)
  | [], n, o, e => by simp [get] at e
  | (m, x) :: r, n, o, e => by
    simp only [symH, get] at e ⊢
    split at e
    · cases e; rfl
    · exact symH_get r n o e
theorem symH_get' : ∀ (h : List (Nat × AO)) (n : Nat) o, get (symH h) n = some o → ∃ o1, get h n = some o1 ∧ o = symO o1
  | [], n, o, e => by simp [symH, get] at e
  | (m, x) :: r, n, o, e => by
    simp only [symH, get] at e ⊢
    split at e
    · cases e; exact ⟨x, rfl, rfl⟩
    · exact symH_get' r n o e

theorem loc_sym {P : Program} {f : FuncId} {la : List AV} {lh : List (Nat × AO)} {R : LR} (h : LocOk P f la lh R) : LocOk P f (symL la) (symH lh) R := by
  intro ρ w hob hr hf hg xs hx
  have hr' : HeapRep P ρ lh w := by
    refine ⟨fun n o e => ?_, fun n m o o' l l' e e' hne hro => ?_⟩
    · obtain ⟨l, hl, ho⟩ := hr.1 n _ (symH_get _ _ _ e)
      exact ⟨l, hl, symO_rep ho⟩
    · exact hr.2 n m _ _ l l' (symH_get _ _ _ e) (symH_get _ _ _ e') hne (by rw [symO_ro, symO_ro]; exact hro)
  refine (h ρ w hob hr' hf hg xs (by rw [← symL_den]; exact hx)).mono fun e w' ⟨x, ρ', he, hv, st⟩ => ⟨x, ρ', he, hv, ?_⟩
  refine ⟨st.le, st.new, st.rep, st.fr.mono ?_, fun n o l h1 h2 h3 h4 => ?_⟩
  · rintro b ⟨m, hm, o, l, e1, e2, e3⟩
    exact ⟨m, hm, _, l, symH_get _ _ _ e1, by rw [symO_ro]; exact e2, e3⟩
  · obtain ⟨m, o', l', e1, e2, e3⟩ := st.own n o l h1 h2 h3 h4
    exact ⟨m, _, l', symH_get _ _ _ e1, by rw [symO_ro]; exact e2, e3⟩
theorem symL_get' : ∀ (l : List AV) (j : Nat) v, (symL l)[j]? = some v → ∃ u, l[j]? = some u ∧ v = symV u
  | [], j, v, h => by simp [symL] at h
  | a :: r, 0, v, h => by simp [symL] at h; exact ⟨a, by simp, h.symm⟩
  | a :: r, j + 1, v, h => by simp [symL] at h; obtain ⟨u, hu, e⟩ := symL_get' r j v h; exact ⟨u, by simpa using hu, e⟩
theorem symO_rep' {P : Program} {ρ : Ren} {w : World} {l : Loc} {o : AO} (h : ObjRep P ρ w l o) : ObjRep P ρ w l (symO o) := by
  cases o with
  | cells wd cs =>
    obtain ⟨h0, h1, h2, c, t, fr, hb, hf, hc, hc2, hv⟩ := h
    refine ⟨h0, h1, h2, c, t, fr, hb, hf, by rw [symL_length]; exact hc, hc2, fun j v hj => ?_⟩
    obtain ⟨u, hu, rfl⟩ := symL_get' cs j v hj
    obtain ⟨x, hx, hr⟩ := hv j u hu
    refine ⟨x, hx, ?_⟩
    rcases hr with hr | hr
    · subst hr; exact .inl rfl
    · exact .inr (by rw [symV_den]; exact hr)
  | arr wd sh ro len f => exact h
  | map t f => exact h
  | mapP t f n k => exact h
def symR (R : LR) : LR := ⟨R.k, R.v, symH R.heap, R.n, R.wr, R.ob⟩
theorem loc_symR {P : Program} {f : FuncId} {la : List AV} {lh : List (Nat × AO)} {R : LR} (h : LocOk P f la lh R) : LocOk P f (symL la) (symH lh) (symR R) := by
  intro ρ w hob hr hf hg xs hx
  refine (loc_sym h ρ w hob hr hf hg xs hx).mono fun e w' ⟨x, ρ', he, hv, st⟩ => ⟨x, ρ', he, hv, ?_⟩
  refine ⟨st.le, st.new, ⟨fun n o e => ?_, fun n m o o' l l' e e' hne hro => ?_⟩, st.fr, fun n o l h1 h2 h3 h4 => ?_⟩
  · obtain ⟨o1, h1, rfl⟩ := symH_get' _ _ _ e
    obtain ⟨l, hl, ho⟩ := st.rep.1 n o1 h1
    exact ⟨l, hl, symO_rep' ho⟩
  · obtain ⟨o1, h1, rfl⟩ := symH_get' _ _ _ e
    obtain ⟨o2, h2, rfl⟩ := symH_get' _ _ _ e'
    rw [symO_ro, symO_ro] at hro
    exact st.rep.2 n m o1 o2 l l' h1 h2 hne hro
  · obtain ⟨o1, g1, rfl⟩ := symH_get' _ _ _ h1
    obtain ⟨m, o', l', e1, e2, e3⟩ := st.own n o1 l g1 h2 h3 h4
    exact ⟨m, o', l', e1, by rw [symO_ro]; exact e2, e3⟩
/-- .. where the answer is written otherwise. -/
theorem loc_fit {P : Program} {f : FuncId} {la : List AV} {lh : List (Nat × AO)} {R R' : LR} (h : LocOk P f la lh R) (ho : ∀ p ∈ R.ob, p) (e : R' = ⟨R.k, R.v, R.heap, R.n, R.wr, R'.ob⟩) : LocOk P f la lh R' := by
  rw [e]
  intro ρ w _ hr hf hg xs hx
  exact h ρ w ho hr hf hg xs hx
/-- .. as an equation shows it. -/
theorem loc_sym' {P : Program} {f : FuncId} {la la' : List AV} {lh lh' : List (Nat × AO)} {R R' : LR} (h : LocOk P f la lh R) (e1 : symL la = la') (e2 : symH lh = lh') (e3 : R = R') : LocOk P f la' lh' R' := by
  subst e1; subst e2; subst e3; exact loc_sym h
end Go.Ev
