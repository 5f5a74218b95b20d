/-
  EvFam and what follows it.
-/
import Derived.Test.YtljeiencnpnbkaaDoorEvLoc2
/-
  A loop by an invariant over a family: rows that hold pointers to blocks of their own. One round looks at one member alone.
-/
set_option linter.unusedSimpArgs false
set_option linter.unusedVariables false
namespace Go.Ev

/-- Names of families lie from here on. -/
def fam0 : Nat := 6703903964971298549787012499102923063739682910296196688861780721860882015036773488400937149083451713845015929093243025426876941405973284973216824503042048

/-- Names below q, moved. -/
def sft (q b n : Nat) : Option Nat := match Nat.blt n q with
  | true => some (b + n)
  | false => none

def mvV (q b : Nat) (v : AV) : AV := match renV (sft q b) v with
  | some v => v
  | none => .top
def mvO (q b : Nat) (o : AO) : AO := match renO (sft q b) o with
  | some o => o
  | none => .cells 0 []

/-- A member: its row's cells, its own blocks; names 0, 1, .. are its own. -/
structure Mb where
  cells : List AV
  objs : List (Nat × AO)

def named (q b : Nat) : List (Nat × AO) → List (Nat × AO)
  | [] => []
  | (c, o) :: r => (b + c, mvO q b o) :: named q b r

def mrow (q b : Nat) (m : Mb) (c : Nat) : AV := match nth m.cells c with
  | some v => mvV q b v
  | none => .top
def grow (b0 q : Nat) (M : Nat → Mb) (i c : Nat) : AV := mrow q (b0 + q * i) (M i) c
def lrow (b0 q : Nat) (M : Nat → Mb) (j i c : Nat) : AV := if i = j then mrow q 900 (M j) c else mrow q (b0 + q * i) (M i) c
def famL (b0 q : Nat) (M : Nat → Mb) : Nat → List (Nat × AO)
  | 0 => []
  | n + 1 => named q (b0 + q * n) (M n).objs ++ famL b0 q M n

structure Fam where
  b0 : Nat
  q : Nat
  wd : Nat
  sh : List CK
  R : Nat

/-- A state with a family. -/
structure FSt where
  tmps : List AV
  pre : List (Nat × AO)
  n : Nat
  M : Nat → Mb
  wr : List Nat

def okV (q : Nat) (v : AV) : Prop := ∀ b, ∃ v', renV (sft q b) v = some v'
def okO (q : Nat) (o : AO) : Prop := ∀ b, ∃ o', renO (sft q b) o = some o'
def kOk : CK → AV → Prop
  | .int k, v => ∃ n, v = .sym k n
  | .bool, v => ∃ b, v = .symb b
  | .val, v => v.oneCell = true

structure MbOk (F : Fam) (m : Mb) : Prop where
  cells : ∀ (c : Nat) k, F.sh[c]? = some k → ∃ v, nth m.cells c = some v ∧ okV F.q v ∧ kOk k v
  objs : ∀ c o, get m.objs c = some o → c < F.q ∧ okO F.q o

/-- Names that a round leaves as they are. -/
def idf (n : Nat) : Option Nat := match Nat.blt n 900 with
  | true => some n
  | false => match Nat.ble (gnm 0) n with
    | true => some n
    | false => none

def cleanO (o : AO) : Bool := match renO idf o with
  | some _ => true
  | none => false
def cleanH (R : Nat) : List (Nat × AO) → Bool
  | [] => true
  | (n, o) :: r => match idf n, Nat.beq n R, cleanO o with
    | some _, false, true => cleanH R r
    | _, _, _ => false
def cleanT (l : List AV) : Bool := match renL idf l with
  | some _ => true
  | none => false

structure FOk (F : Fam) (x : FSt) : Prop where
  pre : cleanH F.R x.pre = true
  tm : cleanT x.tmps = true
  mb : ∀ i, i < x.n → MbOk F (x.M i)

structure FamOk (F : Fam) : Prop where
  lo : 1000 ≤ F.b0
  hi : F.b0 + 100000200 < gnm 0
  q : F.q ≤ 100
  R : F.R < 900
  sh : F.sh.length = F.wd

def FSt.heap (F : Fam) (x : FSt) : List (Nat × AO) := x.pre ++ (F.R, .arr F.wd F.sh false x.n (grow F.b0 F.q x.M)) :: famL F.b0 F.q x.M x.n

/-- The round's own view: member j's blocks by names from 900 on. -/
def locH (F : Fam) (wth : Bool) (objs pre : List (Nat × AO)) (n : Nat) (f : Nat → Nat → AV) : List (Nat × AO) :=
  (match wth with
   | true => named F.q 900 objs
   | false => []) ++ (F.R, .arr F.wd F.sh false n f) :: pre

def locSt (F : Fam) (x : FSt) (wth : Bool) (mb : Mb) (j : Nat) (hints : List Hint) : St :=
  ⟨x.tmps, ⟨locH F wth mb.objs x.pre x.n (lrow F.b0 F.q x.M j), 1000, F.b0, hints, [], x.wr, false⟩⟩

/-! ### lists -/
theorem get_append {α : Type} : ∀ (a b : List (Nat × α)) (n : Nat), get (a ++ b) n = match get a n with
    | some x => some x
    | none => get b n
  | [], b, n => rfl
  | (m, x) :: r, b, n => by
    simp only [List.cons_append, get]
    cases h : Nat.beq m n with
    | true => rfl
    | false => exact get_append r b n

theorem get_append_some {α : Type} {a b : List (Nat × α)} {n : Nat} {x : α} (h : get (a ++ b) n = some x) : get a n = some x ∨ (get a n = none ∧ get b n = some x) := by
  rw [get_append] at h
  cases e : get a n with
  | some y => rw [e] at h; exact .inl h
  | none => rw [e] at h; exact .inr ⟨rfl, h⟩

theorem get_cons {α : Type} {m n : Nat} {x y : α} {r : List (Nat × α)} (h : get ((m, x) :: r) n = some y) : (n = m ∧ y = x) ∨ (n ≠ m ∧ get r n = some y) := by
  simp only [get] at h
  split at h
  · rename_i e; cases h; exact .inl ⟨(Nat.eq_of_beq_eq_true e).symm, rfl⟩
  · rename_i e; exact .inr ⟨fun q => by subst q; simp at e, h⟩

theorem named_inv {q b : Nat} : ∀ (l : List (Nat × AO)) (g : Nat) o, get (named q b l) g = some o → ∃ c o0, g = b + c ∧ get l c = some o0 ∧ o = mvO q b o0
  | [], g, o, h => by simp [named, get] at h
  | (c, o0) :: r, g, o, h => by
    simp only [named] at h
    rcases get_cons h with ⟨rfl, rfl⟩ | ⟨hn, h⟩
    · exact ⟨c, o0, rfl, by simp [get], rfl⟩
    · obtain ⟨c', o', rfl, h2, rfl⟩ := named_inv r g o h
      refine ⟨c', o', rfl, ?_, rfl⟩
      simp only [get]
      have : Nat.beq c c' = false := by
        cases e : Nat.beq c c' with
        | false => rfl
        | true => have := Nat.eq_of_beq_eq_true e; subst this; exact (hn rfl).elim
      rw [this]; exact h2

theorem named_eq {q b : Nat} : ∀ (l : List (Nat × AO)) (c : Nat), get (named q b l) (b + c) = (get l c).map (mvO q b)
  | [], c => rfl
  | (m, o0) :: r, c => by
    simp only [named, get]
    have : Nat.beq (b + m) (b + c) = Nat.beq m c := by
      cases e : Nat.beq m c with
      | true => have := Nat.eq_of_beq_eq_true e; subst this; simp
      | false =>
        cases e2 : Nat.beq (b + m) (b + c) with
        | false => rfl
        | true => have := Nat.eq_of_beq_eq_true e2; have : m = c := by omega
                  subst this; simp at e
    rw [this]
    cases e : Nat.beq m c with
    | true => rfl
    | false => exact named_eq r c

theorem fam_inv {b0 q : Nat} {M : Nat → Mb} : ∀ (n g : Nat) o, get (famL b0 q M n) g = some o → ∃ k c o0, k < n ∧ g = b0 + q * k + c ∧ get (M k).objs c = some o0 ∧ o = mvO q (b0 + q * k) o0
  | 0, g, o, h => by simp [famL, get] at h
  | n + 1, g, o, h => by
    simp only [famL] at h
    rcases get_append_some h with h | ⟨_, h⟩
    · obtain ⟨c, o0, h1, h2, h3⟩ := named_inv _ _ _ h
      exact ⟨n, c, o0, by omega, h1, h2, h3⟩
    · obtain ⟨k, c, o0, h0, h1⟩ := fam_inv n g o h
      exact ⟨k, c, o0, by omega, h1⟩

theorem fam_apart {b0 q k k' c c' : Nat} (hc : c < q) (hc' : c' < q) (h : b0 + q * k + c = b0 + q * k' + c') : k = k' ∧ c = c' := by
  have e : q * k + c = q * k' + c' := by omega
  rcases Nat.lt_trichotomy k k' with h1 | h1 | h1
  · have := Nat.mul_le_mul_left q (show k + 1 ≤ k' by omega)
    rw [Nat.mul_succ] at this; omega
  · subst h1; exact ⟨rfl, by omega⟩
  · have := Nat.mul_le_mul_left q (show k' + 1 ≤ k by omega)
    rw [Nat.mul_succ] at this; omega

theorem fam_eq {b0 q : Nat} {M : Nat → Mb} : ∀ (n : Nat), (∀ i, i < n → ∀ c o, get (M i).objs c = some o → c < q) → ∀ k c, k < n → c < q → get (famL b0 q M n) (b0 + q * k + c) = (get (M k).objs c).map (mvO q (b0 + q * k))
  | 0, _, k, c, h, _ => by omega
  | n + 1, hq, k, c, hk, hc => by
    simp only [famL]
    rw [get_append]
    by_cases e : k = n
    · subst e
      rw [named_eq]
      cases h : get (M k).objs c with
      | some o => rfl
      | none =>
        simp only [Option.map_none]
        cases h2 : get (famL b0 q M k) (b0 + q * k + c) with
        | none => rfl
        | some o =>
          obtain ⟨k', c', o0, h0, h1, h3, _⟩ := fam_inv _ _ _ h2
          have := fam_apart hc (hq k' (by omega) c' o0 h3) h1
          omega
    · have hno : get (named q (b0 + q * n) (M n).objs) (b0 + q * k + c) = none := by
        cases h2 : get (named q (b0 + q * n) (M n).objs) (b0 + q * k + c) with
        | none => rfl
        | some o =>
          obtain ⟨c', o0, h1, h3, _⟩ := named_inv _ _ _ h2
          have := fam_apart hc (hq n (by omega) c' o0 h3) h1
          omega
      rw [hno]
      exact fam_eq n (fun i hi => hq i (by omega)) k c (by omega) hc

/-! ### what moved values and objects stand for -/
theorem renV_top {f : Nat → Option Nat} : ∀ v : AV, renV f v = some .top → v = .top := by
  intro v h
  cases v <;> simp only [renV] at h <;> first | rfl | cases h | (split at h <;> cases h)

theorem mv_den {q b b' : Nat} {ρ ρ' : Ren} (h : ∀ c, c < q → ρ' (b' + c) = ρ (b + c)) {v : AV} (hv : okV q v) : den ρ' (mvV q b' v) = den ρ (mvV q b v) := by
  obtain ⟨v1, h1⟩ := hv b
  obtain ⟨v2, h2⟩ := hv b'
  unfold mvV
  rw [h1, h2]
  simp only
  let ρ0 : Ren := fun n => if n < q then ρ (b + n) else none
  have H1 : ∀ n k, sft q b n = some k → ρ k = ρ0 n := by
    intro n k e
    unfold sft at e
    split at e
    · rename_i hb; cases e
      have : n < q := by simpa [Nat.blt_eq] using hb
      simp [ρ0, this]
    · cases e
  have H2 : ∀ n k, sft q b' n = some k → ρ' k = ρ0 n := by
    intro n k e
    unfold sft at e
    split at e
    · rename_i hb; cases e
      have : n < q := by simpa [Nat.blt_eq] using hb
      simp [ρ0, this, h n this]
    · cases e
  rw [renV_den H1 v v1 h1, renV_den H2 v v2 h2]

theorem renO_rev {P : Program} {f : Nat → Option Nat} {ρ ρ' : Ren} {w : World} {l : Loc} (H : ∀ n k, f n = some k → ρ' k = ρ n) {o o' : AO} (e : renO f o = some o') (h : ObjRep P ρ' w l o') : ObjRep P ρ w l o := by
  cases o with
  | cells wd cs =>
    simp only [renO] at e
    split at e
    · rename_i l1 h1
      cases e
      obtain ⟨h0, h1', h2, c, t, fr, hb, hf, hc, hc2, hv⟩ := h
      obtain ⟨q1, q2⟩ := renL_get cs l1 h1
      refine ⟨h0, h1', h2, c, t, fr, hb, hf, by omega, hc2, fun j v hj => ?_⟩
      have hjl : j < l1.length := by rw [q1]; exact (List.getElem?_eq_some_iff.1 hj).1
      obtain ⟨u, hu⟩ : ∃ u, l1[j]? = some u := ⟨_, List.getElem?_eq_getElem hjl⟩
      obtain ⟨v0, hv0, hr⟩ := q2 j u hu
      rw [hj] at hv0; cases hv0
      obtain ⟨x, hx, hrx⟩ := hv j u hu
      refine ⟨x, hx, ?_⟩
      rcases hrx with rfl | hrx
      · exact .inl (renV_top v hr)
      · exact .inr (by rw [← renV_den H v u hr]; exact hrx)
    · cases e
  | arr wd sh ro len g =>
    simp only [renO] at e
    split at e
    · rename_i hp
      cases e
      obtain ⟨h1, h2, h3, h4, h5⟩ := h
      refine ⟨h1, h2, h3, h4, fun hc => ?_⟩
      obtain ⟨c, t, fr, hb, hf, hc2, hv⟩ := h5 hc
      refine ⟨c, t, fr, hb, hf, hc2, fun i hi j k hj => ?_⟩
      obtain ⟨kk, x, hx, hd⟩ := hv i hi j k hj
      refine ⟨kk, x, hx, ?_⟩
      rcases plainSh_get sh hp j k hj with ⟨q, rfl⟩ | rfl
      · obtain ⟨n, hn | hn⟩ := kk <;> rw [hn] at hd ⊢ <;> simpa [den] using hd
      · obtain ⟨n, hn | hn⟩ := kk <;> rw [hn] at hd ⊢ <;> simpa [den] using hd
    · cases e
  | map t m =>
    simp only [renO] at e
    cases e
    exact h
  | mapP t m n k => simp [renO] at e

theorem renO_ro {f : Nat → Option Nat} {o o' : AO} (e : renO f o = some o') : o'.ro = o.ro := by
  cases o <;> simp only [renO] at e
  · split at e
    · cases e; rfl
    · cases e
  · split at e
    · cases e; rfl
    · cases e
  · cases e; rfl
  · cases e

theorem mvO_ro {q b : Nat} {o : AO} (ho : okO q o) : (mvO q b o).ro = o.ro := by
  obtain ⟨o1, h1⟩ := ho b
  unfold mvO
  rw [h1]
  exact renO_ro h1

theorem mvO_rep {P : Program} {q b b' : Nat} {ρ ρ' : Ren} {w : World} {l : Loc} (h : ∀ c, c < q → ρ' (b' + c) = ρ (b + c)) {o : AO} (ho : okO q o) (hr : ObjRep P ρ w l (mvO q b o)) : ObjRep P ρ' w l (mvO q b' o) := by
  obtain ⟨o1, h1⟩ := ho b
  obtain ⟨o2, h2⟩ := ho b'
  unfold mvO at hr ⊢
  rw [h1] at hr
  rw [h2]
  let ρ0 : Ren := fun n => if n < q then ρ (b + n) else none
  have H1 : ∀ n k, sft q b n = some k → ρ k = ρ0 n := by
    intro n k e
    unfold sft at e
    split at e
    · rename_i hb; cases e
      have : n < q := by simpa [Nat.blt_eq] using hb
      simp [ρ0, this]
    · cases e
  have H2 : ∀ n k, sft q b' n = some k → ρ' k = ρ0 n := by
    intro n k e
    unfold sft at e
    split at e
    · rename_i hb; cases e
      have : n < q := by simpa [Nat.blt_eq] using hb
      simp [ρ0, this, h n this]
    · cases e
  exact (renO_rep H2 h2 (renO_rev H1 h1 hr)).1

/-! ### names that stay -/
theorem idf_spec {n k : Nat} (h : idf n = some k) : k = n ∧ (n < 900 ∨ gnm 0 ≤ n) := by
  unfold idf at h
  split at h
  · rename_i hb; cases h; exact ⟨rfl, .inl (by simpa [Nat.blt_eq] using hb)⟩
  · split at h
    · rename_i hb; cases h; exact ⟨rfl, .inr (Nat.le_of_ble_eq_true hb)⟩
    · cases h

mutual
theorem renV_id {f : Nat → Option Nat} (H : ∀ n k, f n = some k → k = n) : ∀ (v v' : AV), renV f v = some v' → v' = v
  | .top, v', e => by simp [renV] at e; exact e.symm
  | .int .., v', e => by simp [renV] at e; exact e.symm
  | .sym .., v', e => by simp [renV] at e; exact e.symm
  | .bool .., v', e => by simp [renV] at e; exact e.symm
  | .symb .., v', e => by simp [renV] at e; exact e.symm
  | .nilp, v', e => by simp [renV] at e; exact e.symm
  | .ptr b i j, v', e => by
    simp only [renV] at e
    split at e
    · rename_i k hk; cases e; rw [H _ _ hk]
    · cases e
  | .nils, v', e => by simp [renV] at e; exact e.symm
  | .xs wd b o l c, v', e => by
    simp only [renV] at e
    split at e
    · rename_i k hk; cases e; rw [H _ _ hk]
    · cases e
  | .ss wd b o l c, v', e => by
    simp only [renV] at e
    split at e
    · rename_i k hk; cases e; rw [H _ _ hk]
    · cases e
  | .nilm, v', e => by simp [renV] at e; exact e.symm
  | .map b, v', e => by
    simp only [renV] at e
    split at e
    · rename_i k hk; cases e; rw [H _ _ hk]
    · cases e
  | .nilf, v', e => by simp [renV] at e; exact e.symm
  | .func g l m, v', e => by
    simp only [renV] at e
    split at e
    · rename_i l1 m1 h1 h2; cases e; rw [renL_id H l l1 h1, renL_id H m m1 h2]
    · cases e
  | .nili, v', e => by simp [renV] at e; exact e.symm
  | .iface t v, v', e => by
    simp only [renV] at e
    split at e
    · rename_i v1 h1; cases e; rw [renV_id H v v1 h1]
    · cases e
  | .agg l, v', e => by
    simp only [renV] at e
    split at e
    · rename_i l1 h1; cases e; rw [renL_id H l l1 h1]
    · cases e
  | .tup l, v', e => by
    simp only [renV] at e
    split at e
    · rename_i l1 h1; cases e; rw [renL_id H l l1 h1]
    · cases e
  | .stamp n, v', e => by simp [renV] at e
  | .raw v, v', e => by simp [renV] at e; exact e.symm
theorem renL_id {f : Nat → Option Nat} (H : ∀ n k, f n = some k → k = n) : ∀ (v v' : List AV), renL f v = some v' → v' = v
  | [], v', e => by simp only [renL, Option.some.injEq] at e; exact e.symm
  | v :: r, v', e => by
    simp only [renL] at e
    split at e
    · rename_i v1 r1 h1 h2; cases e; rw [renV_id H v v1 h1, renL_id H r r1 h2]
    · cases e
end

theorem renO_id {f : Nat → Option Nat} (H : ∀ n k, f n = some k → k = n) {o o' : AO} (e : renO f o = some o') : o' = o := by
  cases o <;> simp only [renO] at e
  · split at e
    · rename_i l1 h1; cases e; rw [renL_id H _ _ h1]
    · cases e
  · split at e
    · cases e; rfl
    · cases e
  · cases e; rfl
  · cases e

/-- Renamings that agree where a round changes nothing. -/
def Agree (ρ ρ' : Ren) : Prop := ∀ n, (n < 900 ∨ gnm 0 ≤ n) → ρ' n = ρ n

theorem Agree.idf {ρ ρ' : Ren} (h : Agree ρ ρ') : ∀ n k, Go.Ev.idf n = some k → ρ' k = ρ n := fun n k e => by
  obtain ⟨rfl, hn⟩ := idf_spec e
  exact h _ hn

theorem clean_rep {P : Program} {ρ ρ' : Ren} (h : Agree ρ ρ') {w : World} {l : Loc} {o : AO} (hc : cleanO o = true) (hr : ObjRep P ρ w l o) : ObjRep P ρ' w l o := by
  unfold cleanO at hc
  split at hc
  · rename_i o' e
    have := renO_id (fun n k e => (idf_spec e).1) e
    subst this
    exact (renO_rep h.idf e hr).1
  · cases hc

theorem cleanL_rel {ρ ρ' : Ren} (h : Agree ρ ρ') : ∀ (l l' : List AV), renL Go.Ev.idf l = some l' → ∀ (k : Nat) v, l[k]? = some v → ∀ x, relS ρ v x → relS ρ' v x
  | [], _, _, k, v, hk, _ => by simp at hk
  | a :: r, l', e, k, v, hk, x => by
    simp only [renL] at e
    split at e
    · rename_i v1 r1 h1 h2
      cases k with
      | zero =>
        simp at hk; subst hk
        have e1 := renV_id (fun n k e => (idf_spec e).1) _ _ h1
        subst e1
        exact fun hr => renV_rel h.idf h1 hr
      | succ k => exact cleanL_rel h r r1 h2 k v (by simpa using hk) x
    · cases e

theorem clean_relL {ρ ρ' : Ren} (h : Agree ρ ρ') {l : List AV} (hc : cleanT l = true) {xs : List Value} (hr : RelL ρ l xs) : RelL ρ' l xs := by
  unfold cleanT at hc
  split at hc
  · rename_i l' e
    exact ⟨hr.1, fun k v hk => let ⟨x, hx, r⟩ := hr.2 k v hk; ⟨x, hx, cleanL_rel h l l' e k v hk x r⟩⟩
  · cases hc

theorem cleanH_get {R : Nat} : ∀ (l : List (Nat × AO)), cleanH R l = true → ∀ n o, get l n = some o → (n < 900 ∨ gnm 0 ≤ n) ∧ n ≠ R ∧ cleanO o = true
  | [], _, n, o, h => by simp [get] at h
  | (m, x) :: r, hc, n, o, h => by
    simp only [cleanH] at hc
    split at hc
    · rename_i a b c
      rcases get_cons h with ⟨rfl, rfl⟩ | ⟨_, h⟩
      · exact ⟨(idf_spec a).2, fun e => by subst e; simp at b, c⟩
      · exact cleanH_get r hc n o h
    · cases hc
end Go.Ev

/-
  A loop by an invariant over a family: the rule.
-/
set_option linter.unusedSimpArgs false
set_option linter.unusedVariables false
namespace Go.Ev

theorem renV_one {f : Nat → Option Nat} {v v' : AV} (h : renV f v = some v') : v'.oneCell = v.oneCell := by
  cases v <;> simp only [renV] at h <;> first | (cases h; done) | (cases h; rfl) | (split at h <;> cases h; rfl)

theorem mvV_one {q b : Nat} {v : AV} (h : okV q v) : (mvV q b v).oneCell = v.oneCell := by
  obtain ⟨v1, h1⟩ := h b
  unfold mvV; rw [h1]; exact renV_one h1

theorem mrow_kind {F : Fam} {m : Mb} (h : MbOk F m) {c : Nat} {k : CK} (hk : F.sh[c]? = some k) (b : Nat) : kindOk k (mrow F.q b m c) := by
  obtain ⟨v, h1, h2, h3⟩ := h.cells c k hk
  unfold mrow; rw [h1]
  cases k with
  | int k => obtain ⟨n, rfl⟩ := h3; exact ⟨n, .inr rfl⟩
  | bool => obtain ⟨n, rfl⟩ := h3; exact ⟨n, .inr rfl⟩
  | val => exact (mvV_one h2).trans h3

theorem mrow_den {F : Fam} {m : Mb} (hm : MbOk F m) {ρ ρ' : Ren} {b b' : Nat} (h : ∀ c, c < F.q → ρ' (b' + c) = ρ (b + c)) {c : Nat} {k : CK} (hk : F.sh[c]? = some k) : den ρ' (mrow F.q b' m c) = den ρ (mrow F.q b m c) := by
  obtain ⟨v, h1, h2, h3⟩ := hm.cells c k hk
  unfold mrow; rw [h1]
  exact mv_den h h2

theorem castSt_nxt {h0 : Hp} {m : List (Nat × Src)} {s T : St} {ob : List Prop} (e : castSt h0 m s T = some ob) : s.hp.nxt ≤ h0.hi := by
  unfold castSt at e
  split at e
  · rename_i e0 e1 e2 e3 e4 e5 e6 e7
    simpa [Nat.ble_eq] using e3
  · cases e

/-! ### a state's heap -/
section
variable {F : Fam} {x : FSt}

theorem heap_inv (hF : FamOk F) (hx : FOk F x) {n : Nat} {o : AO} (h : get (x.heap F) n = some o) :
    ((n < 900 ∨ gnm 0 ≤ n) ∧ n ≠ F.R ∧ cleanO o = true ∧ get x.pre n = some o) ∨ (n = F.R ∧ o = .arr F.wd F.sh false x.n (grow F.b0 F.q x.M)) ∨
      ∃ k c o0, k < x.n ∧ c < F.q ∧ n = F.b0 + F.q * k + c ∧ get (x.M k).objs c = some o0 ∧ okO F.q o0 ∧ o = mvO F.q (F.b0 + F.q * k) o0 := by
  rcases get_append_some h with h | ⟨_, h⟩
  · have := cleanH_get _ hx.pre _ _ h
    exact .inl ⟨this.1, this.2.1, this.2.2, h⟩
  · rcases get_cons h with ⟨rfl, rfl⟩ | ⟨hn, h⟩
    · exact .inr (.inl ⟨rfl, rfl⟩)
    · obtain ⟨k, c, o0, h0, h1, h2, h3⟩ := fam_inv _ _ _ h
      have := (hx.mb k h0).objs c o0 h2
      exact .inr (.inr ⟨k, c, o0, h0, this.1, h1, h2, this.2, h3⟩)

theorem heap_pre {n : Nat} {o : AO} (h : get x.pre n = some o) : get (x.heap F) n = some o := by
  unfold FSt.heap; rw [get_append, h]

theorem heap_R (hx : FOk F x) : get (x.heap F) F.R = some (.arr F.wd F.sh false x.n (grow F.b0 F.q x.M)) := by
  unfold FSt.heap
  rw [get_append]
  cases h : get x.pre F.R with
  | some o => exact ((cleanH_get _ hx.pre _ _ h).2.1 rfl).elim
  | none => simp [get]

theorem heap_fam (hF : FamOk F) (hx : FOk F x) (hn : x.n ≤ 1000000) {k c : Nat} {o0 : AO} (hk : k < x.n) (h : get (x.M k).objs c = some o0) : get (x.heap F) (F.b0 + F.q * k + c) = some (mvO F.q (F.b0 + F.q * k) o0) := by
  have h900 := hF.lo
  have hR := hF.R
  have hc := ((hx.mb k hk).objs c o0 h).1
  have hq := hF.q
  have hi := hF.hi
  have hm : F.q * k ≤ 100 * 1000000 := Nat.mul_le_mul hq (by omega)
  unfold FSt.heap
  rw [get_append]
  cases hp : get x.pre (F.b0 + F.q * k + c) with
  | some o => have := (cleanH_get _ hx.pre _ _ hp).1; omega
  | none =>
    simp only [get]
    have : Nat.beq F.R (F.b0 + F.q * k + c) = false := by
      cases e : Nat.beq F.R (F.b0 + F.q * k + c) with
      | false => rfl
      | true => have := Nat.eq_of_beq_eq_true e; omega
    rw [this]
    simp only
    rw [fam_eq x.n (fun i hi c o ho => ((hx.mb i hi).objs c o ho).1) k c hk hc, h]
    rfl
end

theorem loc_inv {F : Fam} {wth : Bool} {objs pre : List (Nat × AO)} {n : Nat} {f : Nat → Nat → AV} {m : Nat} {o : AO} (h : get (locH F wth objs pre n f) m = some o) :
    (wth = true ∧ ∃ c o0, m = 900 + c ∧ get objs c = some o0 ∧ o = mvO F.q 900 o0) ∨ (m = F.R ∧ o = .arr F.wd F.sh false n f) ∨ (m ≠ F.R ∧ get pre m = some o) := by
  unfold locH at h
  rcases get_append_some h with h | ⟨_, h⟩
  · cases wth with
    | true =>
      obtain ⟨c, o0, h1, h2, h3⟩ := named_inv _ _ _ h
      exact .inl ⟨rfl, c, o0, h1, h2, h3⟩
    | false => simp [get] at h
  · rcases get_cons h with ⟨rfl, rfl⟩ | ⟨hn, h⟩
    · exact .inr (.inl ⟨rfl, rfl⟩)
    · exact .inr (.inr ⟨hn, h⟩)

theorem loc_low {F : Fam} {wth : Bool} {objs pre : List (Nat × AO)} {n : Nat} {f : Nat → Nat → AV} {m : Nat} (hm : m < 900) : get (locH F wth objs pre n f) m = get ((F.R, .arr F.wd F.sh false n f) :: pre) m := by
  unfold locH
  rw [get_append]
  cases wth with
  | true =>
    simp only
    cases h : get (named F.q 900 objs) m with
    | none => rfl
    | some o => obtain ⟨c, o0, h1, _⟩ := named_inv _ _ _ h; omega
  | false => rfl

theorem gnm_ge : 1000 ≤ gnm 0 := by unfold gnm; decide

theorem loc_pre {F : Fam} {wth : Bool} {objs pre : List (Nat × AO)} {n : Nat} {f : Nat → Nat → AV} {m : Nat} {o : AO} (hm : m < 900 ∨ gnm 0 ≤ m) (ho : wth = true → ∀ c o, get objs c = some o → c < 100) (hR : m ≠ F.R) (h : get pre m = some o) : get (locH F wth objs pre n f) m = some o := by
  have e0 : get (locH F wth objs pre n f) m = get ((F.R, .arr F.wd F.sh false n f) :: pre) m := by
    unfold locH
    rw [get_append]
    cases wth with
    | true =>
      simp only
      cases h : get (named F.q 900 objs) m with
      | none => rfl
      | some o =>
        obtain ⟨c, o0, h1, h2, _⟩ := named_inv _ _ _ h
        have := ho rfl c o0 h2
        have := gnm_ge
        omega
    | false => rfl
  rw [e0]
  simp only [get]
  have : Nat.beq F.R m = false := by
    cases e : Nat.beq F.R m with
    | false => rfl
    | true => exact (hR (Nat.eq_of_beq_eq_true e).symm).elim
  rw [this]; exact h

theorem loc_R {F : Fam} (hF : FamOk F) {wth : Bool} {objs pre : List (Nat × AO)} {n : Nat} {f : Nat → Nat → AV} : get (locH F wth objs pre n f) F.R = some (.arr F.wd F.sh false n f) := by
  rw [loc_low hF.R]; simp [get]

theorem loc_obj {F : Fam} {objs pre : List (Nat × AO)} {n : Nat} {f : Nat → Nat → AV} {c : Nat} {o : AO} (h : get objs c = some o) : get (locH F true objs pre n f) (900 + c) = some (mvO F.q 900 o) := by
  unfold locH
  rw [get_append]
  simp only
  rw [named_eq, h]; rfl

/-! ### what holds between rounds -/
structure GInv (P : Program) (F : Fam) (ρ0 : Ren) (s0 : St) (w0 : World) (x : FSt) (ρ : Ren) (xs : List Value) (w : World) : Prop where
  rel : RelL ρ x.tmps xs
  st : StepB P (gnm 0) ρ0 s0.hp w0 ρ ⟨x.heap F, 0, 0, [], [], x.wr, false⟩ w
  fresh : ∀ n, 900 ≤ n → n < F.b0 → ρ n = none
  wr0 : ∀ n ∈ s0.hp.wr, n ∈ x.wr

/-- What a loop's start must be. -/
structure SOk (s0 : St) : Prop where
  nxt : s0.hp.nxt ≤ 900
  hi : s0.hp.hi = gnm 0
  heap : ∀ n o, get s0.hp.heap n = some o → n < 900 ∨ gnm 0 ≤ n

def locR (b0 q j : Nat) (ρ : Ren) : Ren := fun n => if 900 ≤ n ∧ n < 1000 then (if n < 900 + q then ρ (b0 + q * j + (n - 900)) else none) else ρ n

theorem locR_agree (b0 q j : Nat) (ρ : Ren) : Agree ρ (locR b0 q j ρ) := fun n hn => by
  unfold locR
  refine if_neg ?_
  rintro ⟨h1, h2⟩
  rcases hn with h | h
  · omega
  · exact Nat.lt_irrefl n (Nat.lt_of_lt_of_le h2 (Nat.le_trans gnm_ge h))

theorem locR_out {b0 q j : Nat} {ρ : Ren} {n : Nat} (h : n < 900 ∨ 1000 ≤ n) : locR b0 q j ρ n = ρ n := by
  unfold locR
  rw [if_neg (by omega)]

theorem locR_in {b0 q j : Nat} {ρ : Ren} {c : Nat} (hq : q ≤ 100) (h : c < q) : locR b0 q j ρ (900 + c) = ρ (b0 + q * j + c) := by
  unfold locR
  rw [if_pos (by omega), if_pos (by omega), Nat.add_sub_cancel_left]

/-- The name that a round's own name is. -/
def glN (b0 q j m : Nat) : Nat := if 900 ≤ m ∧ m < 1000 then b0 + q * j + (m - 900) else m

section
variable {P : Program} {F : Fam} {ρ0 : Ren} {s0 : St} {w0 : World} {x : FSt} {ρ : Ren} {xs : List Value} {w : World}

theorem loc_gl (hF : FamOk F) (hx : FOk F x) (hnn : x.n ≤ 1000000) {j : Nat} {wth : Bool} (hj : wth = true → j < x.n) {m : Nat} {o : AO} (h : get (locH F wth (x.M j).objs x.pre x.n (lrow F.b0 F.q x.M j)) m = some o) :
    (m < 1000 ∨ gnm 0 ≤ m) ∧ (900 ≤ m → m < 1000 → m < 900 + F.q ∧ j < x.n) ∧ ∃ o', get (x.heap F) (glN F.b0 F.q j m) = some o' ∧ o.ro = o'.ro ∧ locR F.b0 F.q j ρ m = ρ (glN F.b0 F.q j m) := by
  have hq := hF.q
  have hR := hF.R
  rcases loc_inv h with ⟨hw, c, o0, rfl, h2, rfl⟩ | ⟨rfl, rfl⟩ | ⟨hn, h⟩
  · have hjn := hj hw
    have hc := (hx.mb j hjn).objs c o0 h2
    refine ⟨by omega, fun _ _ => ⟨by omega, hjn⟩, mvO F.q (F.b0 + F.q * j) o0, ?_, ?_, ?_⟩
    · have : glN F.b0 F.q j (900 + c) = F.b0 + F.q * j + c := by unfold glN; rw [if_pos (by omega)]; omega
      rw [this]; exact heap_fam hF hx hnn hjn h2
    · rw [mvO_ro hc.2, mvO_ro hc.2]
    · have : glN F.b0 F.q j (900 + c) = F.b0 + F.q * j + c := by unfold glN; rw [if_pos (by omega)]; omega
      rw [this]; exact locR_in hq hc.1
  · have e : glN F.b0 F.q j F.R = F.R := by unfold glN; rw [if_neg (by omega)]
    refine ⟨by omega, fun h _ => by omega, .arr F.wd F.sh false x.n (grow F.b0 F.q x.M), by rw [e]; exact heap_R hx, rfl, ?_⟩
    rw [e]; exact locR_out (by omega)
  · have hl := (cleanH_get _ hx.pre _ _ h).1
    have hg := gnm_ge
    have e : glN F.b0 F.q j m = m := by unfold glN; rw [if_neg (by omega)]
    refine ⟨by omega, fun h _ => by omega, o, by rw [e]; exact heap_pre h, rfl, ?_⟩
    rw [e]; exact locR_out (by omega)

theorem toLocS (hF : FamOk F) (hS : SOk s0) (f0 : Fresh ρ0 s0.hp.nxt (gnm 0)) (hx : FOk F x) (hn : x.n ≤ 1000000) (g : GInv P F ρ0 s0 w0 x ρ xs w) (G : GOk ρ) {j : Nat} {wth : Bool} (hj : wth = true → j < x.n) (hints : List Hint) :
    RelL (locR F.b0 F.q j ρ) x.tmps xs ∧ StepB P (gnm 0) ρ0 s0.hp w0 (locR F.b0 F.q j ρ) (locSt F x wth (x.M j) j hints).hp w ∧ Fresh (locR F.b0 F.q j ρ) 1000 F.b0 ∧ GOk (locR F.b0 F.q j ρ) := by
  have hq := hF.q
  have hf1 : F.b0 < gnm 0 := by have := hF.hi; omega
  have hf2 := hF.lo
  have hnx := hS.nxt
  have agr := locR_agree F.b0 F.q j ρ
  have gl := fun {m o} h => loc_gl (ρ := ρ) hF hx hn hj (m := m) (o := o) h
  have bound : ∀ m, 900 ≤ m → m < 900 + F.q → j < x.n → glN F.b0 F.q j m < gnm 0 ∧ F.b0 ≤ glN F.b0 F.q j m := by
    intro m h1 h2 h3
    unfold glN
    rw [if_pos ⟨h1, by omega⟩]
    have : F.q * j ≤ 100 * 1000000 := Nat.mul_le_mul hq (by omega)
    have := hF.hi
    omega
  refine ⟨clean_relL agr hx.tm g.rel, ⟨?_, ?_, ⟨?_, ?_⟩, g.st.fr, ?_⟩, ?_, ?_⟩
  · intro n l h
    have : n < 900 ∨ gnm 0 ≤ n := by
      rcases Nat.lt_or_ge n s0.hp.nxt with h1 | h1
      · exact .inl (by omega)
      · rcases Nat.lt_or_ge n (gnm 0) with h2 | h2
        · rw [f0 n h1 h2] at h; cases h
        · exact .inr h2
    rw [agr n this]
    exact g.st.le n l h
  · intro n l h1 h2
    by_cases e : 900 ≤ n ∧ n < 1000
    · exact ⟨by omega, by omega⟩
    · rw [locR_out (by omega)] at h2
      exact g.st.new n l h1 h2
  · intro n o h
    rcases loc_inv h with ⟨hw, c, o0, rfl, h2, rfl⟩ | ⟨rfl, rfl⟩ | ⟨hnR, h⟩
    · have hjn := hj hw
      have hc := (hx.mb j hjn).objs c o0 h2
      obtain ⟨L, hL, hob⟩ := g.st.rep.1 _ _ (heap_fam hF hx hn hjn h2)
      exact ⟨L, (locR_in hq hc.1).trans hL, mvO_rep (fun c hc => locR_in hq hc) hc.2 hob⟩
    · obtain ⟨L, hL, hob⟩ := g.st.rep.1 _ _ (heap_R (F := F) hx)
      refine ⟨L, (locR_out (by have := hF.R; omega)).trans hL, ?_⟩
      obtain ⟨h1, h2, h3, h4, h5⟩ := hob
      refine ⟨h1, h2, h3, h4, fun hc => ?_⟩
      obtain ⟨cc, t, fr, hb, hf, hc2, hv⟩ := h5 hc
      refine ⟨cc, t, fr, hb, hf, hc2, fun i hi c k hk => ?_⟩
      obtain ⟨_, v, hv1, hv2⟩ := hv i hi c k hk
      have hmb := hx.mb i hi
      by_cases e : i = j
      · subst e
        have e2 : lrow F.b0 F.q x.M i i c = mrow F.q 900 (x.M i) c := by simp [lrow]
        rw [e2]
        refine ⟨mrow_kind hmb hk 900, v, hv1, ?_⟩
        rw [mrow_den hmb (ρ := ρ) (b := F.b0 + F.q * i) (fun c hc => locR_in hq hc) hk]
        exact hv2
      · have e2 : lrow F.b0 F.q x.M j i c = mrow F.q (F.b0 + F.q * i) (x.M i) c := by simp [lrow, e]
        rw [e2]
        refine ⟨mrow_kind hmb hk _, v, hv1, ?_⟩
        rw [mrow_den hmb (ρ := ρ) (b := F.b0 + F.q * i) (fun c hc => locR_out (by omega)) hk]
        exact hv2
    · obtain ⟨L, hL, hob⟩ := g.st.rep.1 _ _ (heap_pre (F := F) h)
      have := cleanH_get _ hx.pre _ _ h
      have hg := gnm_ge
      exact ⟨L, (locR_out (by have := this.1; omega)).trans hL, clean_rep agr this.2.2 hob⟩
  · intro n m o o' l l' h h' hne hro hl hl' hc hc'
    obtain ⟨a1, a2, p, a3, a4, a5⟩ := gl h
    obtain ⟨b1, b2, p', b3, b4, b5⟩ := gl h'
    rw [a5] at hl; rw [b5] at hl'
    refine g.st.rep.2 _ _ p p' l l' a3 b3 ?_ (by rw [← a4, ← b4]; exact hro) hl hl' hc hc'
    intro e
    by_cases en : 900 ≤ n ∧ n < 1000
    · have k1 := a2 en.1 en.2
      have k2 := bound n en.1 k1.1 k1.2
      by_cases em : 900 ≤ m ∧ m < 1000
      · unfold glN at e
        rw [if_pos en, if_pos em] at e
        omega
      · have e3 : glN F.b0 F.q j m = m := by unfold glN; rw [if_neg em]
        rw [e3] at e
        omega
    · have e3 : glN F.b0 F.q j n = n := by unfold glN; rw [if_neg en]
      rw [e3] at e
      by_cases em : 900 ≤ m ∧ m < 1000
      · have k1 := b2 em.1 em.2
        have k2 := bound m em.1 k1.1 k1.2
        omega
      · have e4 : glN F.b0 F.q j m = m := by unfold glN; rw [if_neg em]
        rw [e4] at e
        exact hne e
  · intro n o l h hl hc hlt
    obtain ⟨a1, a2, p, a3, a4, a5⟩ := gl h
    rw [a5] at hl
    obtain ⟨m, o', l', h1, h2, h3, h4, h5, h6⟩ := g.st.own _ p l a3 hl hc hlt
    refine ⟨m, o', l', h1, h2.trans a4.symm, h3, h4, h5, ?_⟩
    rcases h6 with h6 | h6
    · by_cases e : 900 ≤ n ∧ n < 1000
      · have := a2 e.1 e.2
        have := bound n e.1 this.1 this.2
        have := hS.heap m o' h1
        omega
      · unfold glN at h6; rw [if_neg e] at h6; exact .inl h6
    · exact .inr h6
  · intro n h1 h2
    rw [locR_out (by omega)]
    exact g.fresh n (by omega) h2
  · intro g'
    obtain ⟨l, hl, r⟩ := G g'
    exact ⟨l, (locR_out (by unfold gnm; unfold gnm at hf1; omega)).trans hl, r⟩

/-- The names behind a round. -/
def outR (b0 q j n : Nat) (ρ : Ren) : Ren := fun k => if 900 ≤ k ∧ k < b0 then none else if b0 + q * j ≤ k ∧ k < b0 + q * j + q ∧ j < n then ρ (900 + (k - (b0 + q * j))) else ρ k

theorem fromLocS (hF : FamOk F) (hS : SOk s0) (f0 : Fresh ρ0 s0.hp.nxt (gnm 0)) (hx : FOk F x) (hn : x.n ≤ 1000000) (g : GInv P F ρ0 s0 w0 x ρ xs w) {j : Nat} {wth : Bool} (hj : wth = true → j < x.n) {hints : List Hint}
    (l1 : HeapRep P (locR F.b0 F.q j ρ) (locSt F x wth (x.M j) j hints).hp.heap w) {ρ2 : Ren} {h2 : Hp} {w2 : World} (st2 : Step P (locR F.b0 F.q j ρ) (locSt F x wth (x.M j) j hints).hp w ρ2 h2 w2) (hnx : h2.nxt ≤ F.b0) (hwr : ∀ n ∈ x.wr, n ∈ h2.wr)
    {y : FSt} (hy : FOk F y) (hyn : y.n ≤ 1000000) {wth' : Bool} (hw' : (wth' = true ∧ j < y.n) ∨ (wth' = false ∧ y.n ≤ j)) (same : ∀ i, i < y.n → i ≠ j → i < x.n ∧ y.M i = x.M i)
    {ρ3 : Ren} {xs2 : List Value} (rel3 : RelL ρ3 y.tmps xs2) (st3 : StepB P (gnm 0) ρ0 s0.hp w0 ρ3 (locSt F y wth' (y.M j) j []).hp w2) (fr3 : Fresh ρ3 1000 F.b0) (wr0 : ∀ n ∈ s0.hp.wr, n ∈ y.wr)
    (keep : ∀ n, ¬ (s0.hp.nxt ≤ n ∧ n < F.b0) → ρ3 n = ρ2 n) (wr3 : ∀ n ∈ h2.wr, ∀ o, get s0.hp.heap n = some o → n ∈ y.wr)
    (src : ∀ n o l, get (locSt F y wth' (y.M j) j []).hp.heap n = some o → ρ3 n = some l → l.cap ≠ 0 → ∃ k o1, get h2.heap k = some o1 ∧ ρ2 k = some l ∧ o.ro = o1.ro) :
    GInv P F ρ0 s0 w0 y (outR F.b0 F.q j y.n ρ3) xs2 w2 := by
  have hq := hF.q
  have hR := hF.R
  have hf1 : F.b0 < gnm 0 := by have := hF.hi; omega
  have hf2 := hF.lo
  have hlo := hS.nxt
  have big := hF.hi
  have mul : ∀ k, k < 1000000 → F.q * k ≤ 100 * 1000000 := fun k hk => Nat.mul_le_mul hq (by omega)
  have agr : Agree ρ3 (outR F.b0 F.q j y.n ρ3) := fun n h => by
    unfold outR
    rw [if_neg (by omega)]
    rw [if_neg]
    rintro ⟨h1, h3, h4⟩
    have := mul j (by omega)
    omega
  have outIn : ∀ c, c < F.q → j < y.n → outR F.b0 F.q j y.n ρ3 (F.b0 + F.q * j + c) = ρ3 (900 + c) := fun c hc hjn => by
    unfold outR
    rw [if_neg (by omega), if_pos ⟨by omega, by omega, hjn⟩, Nat.add_sub_cancel_left]
  have high : ∀ n, F.b0 ≤ n → ρ3 n = ρ n := fun n h => by
    rw [keep n (by omega)]
    have e : locR F.b0 F.q j ρ n = ρ n := locR_out (by omega)
    rw [← e]
    cases h1 : locR F.b0 F.q j ρ n with
    | some l => exact st2.le n l h1
    | none =>
      cases h3 : ρ2 n with
      | none => rfl
      | some l => have := (st2.new n l h1 h3).2; omega
  have outFam : ∀ i c, i ≠ j → c < F.q → outR F.b0 F.q j y.n ρ3 (F.b0 + F.q * i + c) = ρ (F.b0 + F.q * i + c) := fun i c hij hc => by
    unfold outR
    rw [if_neg (by omega), if_neg]
    · exact high _ (by omega)
    · rintro ⟨h1, h3, _⟩
      obtain ⟨d, hd⟩ : ∃ d, F.b0 + F.q * i + c = F.b0 + F.q * j + d := ⟨F.b0 + F.q * i + c - (F.b0 + F.q * j), by omega⟩
      exact hij (fam_apart hc (by omega : d < F.q) hd).1
  -- what stands at a name behind the round
  have kind : ∀ n o, get (y.heap F) n = some o → (∃ ln o1, get (locSt F y wth' (y.M j) j []).hp.heap ln = some o1 ∧ o.ro = o1.ro ∧ outR F.b0 F.q j y.n ρ3 n = ρ3 ln ∧ (((n < 900 ∨ gnm 0 ≤ n) ∧ ln = n) ∨ ∃ c, c < F.q ∧ j < y.n ∧ n = F.b0 + F.q * j + c ∧ ln = 900 + c) ∧ ∀ L, ObjRep P ρ3 w2 L o1 → ObjRep P (outR F.b0 F.q j y.n ρ3) w2 L o) ∨
      (∃ i c o0, i ≠ j ∧ i < x.n ∧ c < F.q ∧ n = F.b0 + F.q * i + c ∧ okO F.q o0 ∧ o = mvO F.q (F.b0 + F.q * i) o0 ∧ get (x.heap F) n = some o ∧ outR F.b0 F.q j y.n ρ3 n = ρ n) := by
    intro n o h
    rcases heap_inv hF hy h with ⟨h1, h3, h4, h5⟩ | ⟨rfl, rfl⟩ | ⟨i, c, o0, h1, h3, rfl, h4, h5, rfl⟩
    · refine .inl ⟨n, o, loc_pre h1 (fun hw c o hc => ?_) h3 h5, rfl, agr n h1, .inl ⟨h1, rfl⟩, fun L hL => clean_rep agr h4 hL⟩
      have hjn : j < y.n := by
        rcases hw' with h | h
        · exact h.2
        · rw [h.1] at hw; cases hw
      have := ((hy.mb j hjn).objs c o hc).1
      omega
    · refine .inl ⟨F.R, _, loc_R hF, rfl, agr _ (.inl hR), .inl ⟨.inl hR, rfl⟩, fun L hob => ?_⟩
      obtain ⟨h1, h3, h4, h5, h6⟩ := hob
      refine ⟨h1, h3, h4, h5, fun hc => ?_⟩
      obtain ⟨cc, t, fr, hb, hf, hc2, hv⟩ := h6 hc
      refine ⟨cc, t, fr, hb, hf, hc2, fun i hi c k hk => ?_⟩
      obtain ⟨_, v, hv1, hv2⟩ := hv i hi c k hk
      have hmb := hy.mb i hi
      refine ⟨mrow_kind hmb hk _, v, hv1, ?_⟩
      by_cases e : i = j
      · subst e
        have e2 : lrow F.b0 F.q y.M i i c = mrow F.q 900 (y.M i) c := by simp [lrow]
        rw [e2] at hv2
        unfold grow
        rw [mrow_den hmb (ρ := ρ3) (b := 900) (fun c hc => outIn c hc hi) hk]
        exact hv2
      · have e2 : lrow F.b0 F.q y.M j i c = mrow F.q (F.b0 + F.q * i) (y.M i) c := by simp [lrow, e]
        rw [e2] at hv2
        unfold grow
        rw [mrow_den hmb (ρ := ρ3) (b := F.b0 + F.q * i) (fun c hc => by rw [outFam i c e hc, high _ (by omega)]) hk]
        exact hv2
    · by_cases e : i = j
      · subst e
        have hwt : wth' = true := by
          rcases hw' with h | h
          · exact h.1
          · omega
        subst hwt
        refine .inl ⟨900 + c, mvO F.q 900 o0, loc_obj h4, by rw [mvO_ro h5, mvO_ro h5], outIn c h3 h1, .inr ⟨c, h3, h1, rfl, rfl⟩, fun L hL => mvO_rep (fun c hc => outIn c hc h1) h5 hL⟩
      · obtain ⟨s1, s2⟩ := same i h1 e
        rw [s2] at h4
        exact .inr ⟨i, c, o0, e, s1, h3, rfl, h5, rfl, heap_fam hF hx hn s1 h4, outFam i c e h3⟩
  -- a block that stays
  have stay : ∀ n o L, get (x.heap F) n = some o → (∃ i c, i ≠ j ∧ i < x.n ∧ c < F.q ∧ n = F.b0 + F.q * i + c) → ρ n = some L → L.cap ≠ 0 → ∀ m o1 L1, get (locSt F x wth (x.M j) j hints).hp.heap m = some o1 → (o1.ro && o.ro) = false → locR F.b0 F.q j ρ m = some L1 → L1.cap ≠ 0 → L1.blk ≠ L.blk := by
    intro n o L h ⟨i, c, h1, h3, h4, h5⟩ hL hc m o1 L1 hm hro hL1 hc1
    obtain ⟨a1, a2, p, a3, a4, a5⟩ := loc_gl (ρ := ρ) hF hx hn hj hm
    rw [a5] at hL1
    refine g.st.rep.2 _ _ p o L1 L a3 h ?_ (by rw [← a4]; exact hro) hL1 hL hc1 hc
    intro e
    have hmi := mul i (by omega)
    unfold glN at e
    split at e
    · rename_i e1
      have := a2 e1.1 e1.2
      rw [h5] at e
      obtain ⟨d, hd⟩ : ∃ d, m = 900 + d := ⟨m - 900, by omega⟩
      subst hd
      have := fam_apart (show d < F.q by omega) h4 (show F.b0 + F.q * j + d = F.b0 + F.q * i + c by omega)
      exact h1 this.1.symm
    · omega
  have unch : ∀ n o L, get (x.heap F) n = some o → (∃ i c, i ≠ j ∧ i < x.n ∧ c < F.q ∧ n = F.b0 + F.q * i + c) → ρ n = some L → L.cap ≠ 0 → L.blk < w.heap.size → w2.heap[L.blk]? = w.heap[L.blk]? := by
    intro n o L h hi hL hc hlt
    refine st2.fr.same L.blk hlt ?_
    rintro ⟨m, hm, o1, L1, y1, y2, y3, y4, y5⟩
    exact stay n o L h hi hL hc m o1 L1 y1 (by rw [y2]; rfl) y3 y4 y5
  have mixed : ∀ ln o1 L1 n o L, get (locSt F y wth' (y.M j) j []).hp.heap ln = some o1 → ρ3 ln = some L1 → L1.cap ≠ 0 → get (x.heap F) n = some o → (∃ i c, i ≠ j ∧ i < x.n ∧ c < F.q ∧ n = F.b0 + F.q * i + c) → ρ n = some L → L.cap ≠ 0 → (o1.ro && o.ro) = false → L1.blk ≠ L.blk := by
    intro ln o1 L1 n o L h1 h3 hc1 h hi hL hc hro heq
    obtain ⟨k, o2, s1, s2, s3⟩ := src ln o1 L1 h1 h3 hc1
    obtain ⟨L', hL', hob⟩ := g.st.rep.1 n o h
    rw [hL] at hL'; cases hL'
    have hlt := hob.lt hc
    obtain ⟨m, o3, L3, y1, y2, y3, y4, y5, _⟩ := st2.own k o2 L1 s1 s2 hc1 (by rw [heq]; exact hlt)
    exact stay n o L h hi hL hc m o3 L3 y1 (by rw [y2, ← s3]; exact hro) y3 y4 (y5.trans heq)
  refine ⟨clean_relL agr hy.tm rel3, ⟨?_, ?_, ⟨?_, ?_⟩, st3.fr, ?_⟩, ?_, wr0⟩
  · intro n l h
    have : n < 900 ∨ gnm 0 ≤ n := by
      rcases Nat.lt_or_ge n s0.hp.nxt with h1 | h1
      · exact .inl (by omega)
      · rcases Nat.lt_or_ge n (gnm 0) with h2 | h2
        · rw [f0 n h1 h2] at h; cases h
        · exact .inr h2
    rw [agr n this]
    exact st3.le n l h
  · intro n l h1 h3
    unfold outR at h3
    split at h3
    · cases h3
    · split at h3
      · rename_i e
        have := mul j (by omega)
        exact ⟨by omega, by omega⟩
      · exact st3.new n l h1 h3
  · intro n o h
    rcases kind n o h with ⟨ln, o1, a1, a2, a3, a4, a5⟩ | ⟨i, c, o0, a1, a2, a3, rfl, a4, rfl, a5, a6⟩
    · obtain ⟨L, hL, hob⟩ := st3.rep.1 ln o1 a1
      exact ⟨L, a3.trans hL, a5 L hob⟩
    · obtain ⟨L, hL, hob⟩ := g.st.rep.1 _ _ a5
      refine ⟨L, a6.trans hL, ?_⟩
      have h1 : ObjRep P ρ w2 L (mvO F.q (F.b0 + F.q * i) o0) := hob.keep (Le.refl ρ) (fun hc => unch _ _ L a5 ⟨i, c, a1, a2, a3, rfl⟩ hL hc (hob.lt hc))
      exact mvO_rep (fun c hc => outFam i c a1 hc) a4 h1
  · intro n m o o' l l' h h' hne hro hl hl' hc hc'
    rcases kind n o h with ⟨ln, o1, a1, a2, a3, a4, a5⟩ | ⟨i, c, o0, a1, a2, a3, a7, a4, rfl, a5, a6⟩
    · rw [a3] at hl
      rcases kind m o' h' with ⟨ln', o1', b1, b2, b3, b4, b5⟩ | ⟨i', c', o0', b1, b2, b3, b7, b4, rfl, b5, b6⟩
      · rw [b3] at hl'
        refine st3.rep.2 ln ln' o1 o1' l l' a1 b1 ?_ (by rw [← a2, ← b2]; exact hro) hl hl' hc hc'
        intro e
        rcases a4 with ⟨p1, p2⟩ | ⟨c, p1, p2, p3, p4⟩
        · rcases b4 with ⟨r1, r2⟩ | ⟨c', r1, r2, r3, r4⟩
          · exact hne (by omega)
          · omega
        · rcases b4 with ⟨r1, r2⟩ | ⟨c', r1, r2, r3, r4⟩
          · omega
          · exact hne (by omega)
      · rw [b6] at hl'
        exact mixed ln o1 l m _ l' a1 hl hc b5 ⟨i', c', b1, b2, b3, b7⟩ hl' hc' (by rw [← a2]; exact hro)
    · rw [a6] at hl
      rcases kind m o' h' with ⟨ln', o1', b1, b2, b3, b4, b5⟩ | ⟨i', c', o0', b1, b2, b3, b7, b4, rfl, b5, b6⟩
      · rw [b3] at hl'
        exact (mixed ln' o1' l' n _ l b1 hl' hc' a5 ⟨i, c, a1, a2, a3, a7⟩ hl hc (by rw [← b2, Bool.and_comm]; exact hro)).symm
      · rw [b6] at hl'
        exact g.st.rep.2 n m _ _ l l' a5 b5 hne hro hl hl' hc hc'
  · intro n o l h hl hc hlt
    rcases kind n o h with ⟨ln, o1, a1, a2, a3, a4, a5⟩ | ⟨i, c, o0, a1, a2, a3, rfl, a4, rfl, a5, a6⟩
    · rw [a3] at hl
      obtain ⟨m, o', l', h1, h3, h4, h5, h6, h7⟩ := st3.own ln o1 l a1 hl hc hlt
      refine ⟨m, o', l', h1, h3.trans a2.symm, h4, h5, h6, ?_⟩
      rcases h7 with rfl | h7
      · rcases a4 with ⟨p1, p2⟩ | ⟨c, p1, p2, p3, p4⟩
        · exact .inl p2
        · have := hS.heap _ _ h1; omega
      · exact .inr h7
    · rw [a6] at hl
      obtain ⟨m, o', l', h1, h3, h4, h5, h6, h7⟩ := g.st.own _ _ l a5 hl hc hlt
      refine ⟨m, o', l', h1, h3, h4, h5, h6, .inr ?_⟩
      rcases h7 with rfl | h7
      · have := hS.heap _ _ h1
        have := mul i (by omega)
        omega
      · exact wr3 m (hwr m h7) o' h1
  · intro n h1 h3
    unfold outR
    rw [if_pos ⟨h1, h3⟩]

theorem initS (hF : FamOk F) (hS : SOk s0) (f0 : Fresh ρ0 s0.hp.nxt (gnm 0)) {y : FSt} (hy : FOk F y) (hyn : y.n ≤ 1000000) (none' : ∀ k, k < y.n → (y.M k).objs = []) {mb : Mb}
    {ρ3 : Ren} {xs2 : List Value} {w2 : World} (rel3 : RelL ρ3 y.tmps xs2) (st3 : StepB P (gnm 0) ρ0 s0.hp w0 ρ3 (locSt F y false mb y.n []).hp w2) (wr0 : ∀ n ∈ s0.hp.wr, n ∈ y.wr) :
    GInv P F ρ0 s0 w0 y (outR F.b0 F.q y.n y.n ρ3) xs2 w2 := by
  have hq := hF.q
  have hR := hF.R
  have hlo := hS.nxt
  have hf2 := hF.lo
  have hf1 : F.b0 < gnm 0 := by have := hF.hi; omega
  have out : ∀ n, (n < 900 ∨ F.b0 ≤ n) → outR F.b0 F.q y.n y.n ρ3 n = ρ3 n := fun n h => by
    unfold outR
    rw [if_neg (by omega), if_neg (by omega)]
  have agr : Agree ρ3 (outR F.b0 F.q y.n y.n ρ3) := fun n h => out n (by omega)
  have kind : ∀ n o, get (y.heap F) n = some o → (n < 900 ∨ gnm 0 ≤ n) ∧ ∃ o1, get (locSt F y false mb y.n []).hp.heap n = some o1 ∧ o.ro = o1.ro ∧ ∀ L, ObjRep P ρ3 w2 L o1 → ObjRep P (outR F.b0 F.q y.n y.n ρ3) w2 L o := by
    intro n o h
    rcases heap_inv hF hy h with ⟨h1, h3, h4, h5⟩ | ⟨rfl, rfl⟩ | ⟨i, c, o0, h1, h3, rfl, h4, h5, rfl⟩
    · exact ⟨h1, o, loc_pre (F := F) (wth := false) (objs := mb.objs) (n := y.n) (f := lrow F.b0 F.q y.M y.n) h1 (fun hw => by cases hw) h3 h5, rfl, fun L hL => clean_rep agr h4 hL⟩
    · refine ⟨.inl hR, .arr F.wd F.sh false y.n (lrow F.b0 F.q y.M y.n), loc_R (wth := false) (objs := mb.objs) (pre := y.pre) (n := y.n) (f := lrow F.b0 F.q y.M y.n) hF, rfl, fun L hob => ?_⟩
      obtain ⟨h1, h3, h4, h5, h6⟩ := hob
      refine ⟨h1, h3, h4, h5, fun hc => ?_⟩
      obtain ⟨cc, t, fr, hb, hf, hc2, hv⟩ := h6 hc
      refine ⟨cc, t, fr, hb, hf, hc2, fun i hi c k hk => ?_⟩
      obtain ⟨_, v, hv1, hv2⟩ := hv i hi c k hk
      have hmb := hy.mb i hi
      refine ⟨mrow_kind hmb hk _, v, hv1, ?_⟩
      have e : i ≠ y.n := by omega
      have e2 : lrow F.b0 F.q y.M y.n i c = mrow F.q (F.b0 + F.q * i) (y.M i) c := by simp [lrow, e]
      rw [e2] at hv2
      unfold grow
      rw [mrow_den hmb (ρ := ρ3) (b := F.b0 + F.q * i) (fun c hc => out _ (by omega)) hk]
      exact hv2
    · rw [none' i h1] at h4; simp [get] at h4
  refine ⟨clean_relL agr hy.tm rel3, ⟨?_, ?_, ⟨?_, ?_⟩, st3.fr, ?_⟩, ?_, wr0⟩
  · intro n l h
    have : n < 900 ∨ gnm 0 ≤ n := by
      rcases Nat.lt_or_ge n s0.hp.nxt with h1 | h1
      · exact .inl (by omega)
      · rcases Nat.lt_or_ge n (gnm 0) with h2 | h2
        · rw [f0 n h1 h2] at h; cases h
        · exact .inr h2
    rw [agr n this]
    exact st3.le n l h
  · intro n l h1 h3
    by_cases e : n < 900 ∨ F.b0 ≤ n
    · rw [out n e] at h3; exact st3.new n l h1 h3
    · unfold outR at h3
      rw [if_pos (by omega)] at h3
      cases h3
  · intro n o h
    obtain ⟨h1, o1, h3, h4, h5⟩ := kind n o h
    obtain ⟨L, hL, hob⟩ := st3.rep.1 n o1 h3
    exact ⟨L, (out n (by omega)).trans hL, h5 L hob⟩
  · intro n m o o' l l' h h' hne hro hl hl' hc hc'
    obtain ⟨h1, o1, h3, h4, h5⟩ := kind n o h
    obtain ⟨k1, p1, k3, k4, k5⟩ := kind m o' h'
    rw [out n (by omega)] at hl
    rw [out m (by omega)] at hl'
    exact st3.rep.2 n m o1 p1 l l' h3 k3 hne (by rw [← h4, ← k4]; exact hro) hl hl' hc hc'
  · intro n o l h hl hc hlt
    obtain ⟨h1, o1, h3, h4, h5⟩ := kind n o h
    rw [out n (by omega)] at hl
    obtain ⟨m, o', l', q1, q2, q3⟩ := st3.own n o1 l h3 hl hc hlt
    exact ⟨m, o', l', q1, q2.trans h4.symm, q3⟩
  · intro n h1 h3
    unfold outR
    rw [if_pos ⟨h1, h3⟩]
end

theorem StepB.trans {P : Program} {B : Nat} {ρ ρ' ρ'' : Ren} {h h' h'' : Hp} {w w' w'' : World} (a : StepB P B ρ h w ρ' h' w') (b : Step P ρ' h' w' ρ'' h'' w'') (mw : ∀ n ∈ h'.wr, n ∈ h''.wr) (hn : h.nxt ≤ h'.nxt) (hB : h''.nxt ≤ B) : StepB P B ρ h w ρ'' h'' w'' where
  le := a.le.trans b.le
  new := fun n l e e' => by
    cases h1 : ρ' n with
    | none => have := b.new n l h1 e'; exact ⟨Nat.le_trans hn this.1, Nat.lt_of_lt_of_le this.2 hB⟩
    | some l' => exact a.new n l' e h1
  rep := b.rep
  fr := by
    refine ⟨Nat.le_trans a.fr.size b.fr.size, fun k hk hn => ?_, b.fr.tape.trans a.fr.tape, b.fr.os.trans a.fr.os, b.fr.output.trans a.fr.output⟩
    refine (b.fr.same k (Nat.lt_of_lt_of_le hk a.fr.size) ?_).trans (a.fr.same k hk (fun x => hn (Owned.mono mw k x)))
    rintro ⟨m, hm, o, l, h1, hro, h2, h3, rfl⟩
    obtain ⟨m', o', l', g1, gro, g2, g3, g4, g5⟩ := a.own m o l h1 h2 h3 hk
    refine hn ⟨m', ?_, o', l', g1, gro.trans hro, g2, g3, g4⟩
    rcases g5 with rfl | g5
    · exact hm
    · exact mw _ g5
  own := fun n o l h1 h2 h3 h4 => by
    obtain ⟨m, o', l', g1, gro, g2, g3, g4, g5⟩ := b.own n o l h1 h2 h3 (Nat.lt_of_lt_of_le h4 a.fr.size)
    obtain ⟨m', o'', l'', k1, kro, k2, k3, k4, k5⟩ := a.own m o' l' g1 g2 g3 (by rw [g4]; exact h4)
    refine ⟨m', o'', l'', k1, kro.trans gro, k2, k3, k4.trans g4, ?_⟩
    rcases k5 with rfl | k5
    · exact g5
    · exact .inr (mw _ k5)

/-- What a round's casts start from. -/
def h0F (F : Fam) (s0 : St) : Hp := ⟨s0.hp.heap, s0.hp.nxt, F.b0, [], [], s0.hp.wr, false⟩

/-- One round over a family, as an evaluation shows it. -/
def FamRound (E : Env) (c : Code) (F : Fam) (s0 : St) (e0 : Ex) (s1 : St) {X : Type} (T : X → FSt) (μ : X → Nat) (ok : X → Prop) (x : X) : Prop :=
  ∃ j wth mb fuel hints e s', (wth = true → j < (T x).n) ∧ (T x).M j = mb ∧ exec E fuel c (locSt F (T x) wth mb j hints) = some (e, s') ∧ Obs s'.hp ∧
    ((e = .norm ∧ ∃ y wth' mb' m ob, ok y ∧ μ y < μ x ∧ (T y).M j = mb' ∧ ((wth' = true ∧ j < (T y).n) ∨ (wth' = false ∧ (T y).n ≤ j)) ∧ (∀ i, i < (T y).n → i ≠ j → i < (T x).n ∧ (T y).M i = (T x).M i) ∧
        castSt (h0F F s0) m s' (locSt F (T y) wth' mb' j []) = some ob ∧ ∀ p ∈ ob, p) ∨
      (e = e0 ∧ e ≠ .norm ∧ ∃ m ob, castSt s0.hp m s' s1 = some ob ∧ ∀ p ∈ ob, p))

theorem fam_rule {E : Env} (hE : EnvOk E) {c : Code} {s0 : St} {e0 : Ex} {s1 : St} {X : Type} {F : Fam} (hF : FamOk F) (hS : SOk s0) (T : X → FSt) (μ : X → Nat) (ok : X → Prop)
    (fok : ∀ x, ok x → FOk F (T x) ∧ (T x).n ≤ 1000000)
    (init : ∃ x m ob, ok x ∧ (∀ k, k < (T x).n → ((T x).M k).objs = []) ∧ castSt (h0F F s0) m s0 (locSt F (T x) false ⟨[], []⟩ (T x).n []) = some ob ∧ ∀ p ∈ ob, p)
    (round : ∀ x, ok x → FamRound E c F s0 e0 s1 T μ ok x) : LoopHolds E.P c s0 e0 s1 := by
  intro ρ a w Q pre post
  have hlo := hS.nxt
  have hf1 : F.b0 < gnm 0 := by have := hF.hi; omega
  have hf2 := hF.lo
  have f0 : Fresh ρ s0.hp.nxt (gnm 0) := fun n h1 h2 => pre.fresh n h1 (by rw [hS.hi]; exact h2)
  have key : ∀ n x, μ x < n → ok x → ∀ ρ' a' w', GInv E.P F ρ s0 w (T x) ρ' a'.tmps.toList w' → a'.defers = [] → Code.rounds E.P c Q n a' w' := by
    intro n
    induction n with
    | zero => intro x h; omega
    | succ n IH =>
      intro x hx hok ρ' a' w' g hdef
      obtain ⟨j, wth, mb, fuel, hints, e, s', hj, rfl, hex, hobs, hend⟩ := round x hok
      obtain ⟨fx, nx⟩ := fok x hok
      obtain ⟨l1, l2, l3, l4⟩ := toLocS hF hS f0 fx nx g (pre.glob.mono g.st.le) hj hints
      have o := (all_ok hE fuel).ex _ _ _ _ hex
      rw [rounds_succ]
      refine o.wp hobs _ a' w' _ ⟨l1, hdef, l2.rep, l3, l4⟩ (fun ρ2 a2 w2 hr2 hd2 hs2 => ?_)
      have hall : s'.hp.nxt ≤ gnm 0 → StepB E.P (gnm 0) ρ s0.hp w ρ2 s'.hp w2 := fun hn => l2.trans hs2 o.mono.wr (by show s0.hp.nxt ≤ 1000; omega) hn
      rcases hend with ⟨rfl, y, wth', mb', m, ob, hy, hμ, rfl, hw', same, hc, ho⟩ | ⟨rfl, hne, m, ob, hc, ho⟩
      · have hn1 : s'.hp.nxt ≤ F.b0 := castSt_nxt hc
        have hn2 : s'.hp.nxt ≤ gnm 0 := by omega
        have all := hall hn2
        have all' : StepB E.P (gnm 0) ρ (h0F F s0) w ρ2 s'.hp w2 := ⟨all.le, all.new, all.rep, all.fr, all.own⟩
        obtain ⟨ρ3, q1, q2, q3, q4, q5, q6, q7, q8, q9, q10⟩ := castSt_okB all' (by show F.b0 ≤ gnm 0; omega) f0 hc ho hr2
        obtain ⟨fy, ny⟩ := fok y hy
        have q2' : StepB E.P (gnm 0) ρ s0.hp w ρ3 (locSt F (T y) wth' ((T y).M j) j []).hp w2 := ⟨q2.le, q2.new, q2.rep, q2.fr, q2.own⟩
        have := fromLocS hF hS f0 fx nx g hj l2.rep hs2 hn1 o.mono.wr fy ny hw' same q1 q2' q4 q7 q8 q9 q10
        exact exOf_then (fun _ => IH y (by omega) hy _ a2 w2 this hd2) (fun h => (h rfl).elim)
      · have hn1 : s'.hp.nxt ≤ s0.hp.hi := castSt_nxt hc
        have all := hall (by rw [← hS.hi]; exact hn1)
        obtain ⟨ρ3, q1, q2, q3, q4, q5, q6, q7, _⟩ := castSt_okB all (by rw [hS.hi]; exact Nat.le_refl _) f0 hc ho hr2
        refine exOf_then (fun h => (hne h).elim) (fun _ => post ρ3 a2 w2 q1 hd2 ⟨q2.le, fun n l h1 h2 => ⟨(q2.new n l h1 h2).1, ?_⟩, q2.rep, q2.fr, q2.own⟩)
        rcases q3 n l h1 h2 with h | h
        · exact h
        · have := (q2.new n l h1 h2).2
          rw [hS.hi] at h; omega
  obtain ⟨x, m, ob, hok, hno, hc, ho⟩ := init
  obtain ⟨fx, nx⟩ := fok x hok
  have st0 : StepB E.P (gnm 0) ρ (h0F F s0) w ρ s0.hp w := ⟨Le.refl ρ, fun n l h1 h2 => (by rw [h1] at h2; cases h2), pre.rep, Fr.refl _ _, fun n o l h1 h2 h3 h4 => ⟨n, o, l, h1, rfl, h2, h3, rfl, .inl rfl⟩⟩
  obtain ⟨ρ3, q1, q2, q3, q4, q5, q6, q7, q8, q9, q10⟩ := castSt_okB st0 (by show F.b0 ≤ gnm 0; omega) f0 hc ho pre.rel
  have q2' : StepB E.P (gnm 0) ρ s0.hp w ρ3 (locSt F (T x) false ⟨[], []⟩ (T x).n []).hp w := ⟨q2.le, q2.new, q2.rep, q2.fr, q2.own⟩
  have := initS hF hS f0 fx nx hno q1 q2' q7
  exact wp_loop_rounds (μ x + 1) (key (μ x + 1) x (by omega) hok _ a w this pre.defers)
end Go.Ev

/-
  A loop by an invariant over a family: rounds out of evaluations that end in a cast; rows of the array.
-/
set_option linter.unusedSimpArgs false
set_option linter.unusedVariables false
namespace Go.Ev

theorem fam_norm {E : Env} {c : Code} {F : Fam} {s0 : St} {e0 : Ex} {s1 : St} {X : Type} {T : X → FSt} {μ : X → Nat} {ok : X → Prop} {x : X} (y : X) (j : Nat) (wth wth' : Bool) {mb mb' : Mb} {fuel : Nat} {m : List (Nat × Src)} {hints : List Hint} {ob : List Prop}
    (h : roundB E fuel c (h0F F s0) m (locSt F (T x) wth mb j []) hints (locSt F (T y) wth' mb' j []) = some (.norm, ob)) (ho : ∀ p ∈ ob, p)
    (hj : wth = true → j < (T x).n) (hm : (T x).M j = mb) (hy : ok y) (hμ : μ y < μ x) (hm' : (T y).M j = mb') (hw : (wth' = true ∧ j < (T y).n) ∨ (wth' = false ∧ (T y).n ≤ j))
    (same : ∀ i, i < (T y).n → i ≠ j → i < (T x).n ∧ (T y).M i = (T x).M i) : FamRound E c F s0 e0 s1 T μ ok x := by
  obtain ⟨s', h1, h2, ob', h3, h4⟩ := roundB_spec h ho
  exact ⟨j, wth, mb, fuel, hints, .norm, s', hj, hm, h1, h2, .inl ⟨rfl, y, wth', mb', m, ob', hy, hμ, hm', hw, same, h3, h4⟩⟩

theorem fam_exit {E : Env} {c : Code} {F : Fam} {s0 : St} {e0 : Ex} {s1 : St} {X : Type} {T : X → FSt} {μ : X → Nat} {ok : X → Prop} {x : X} (j : Nat) (wth : Bool) {mb : Mb} {fuel : Nat} {m : List (Nat × Src)} {hints : List Hint} {ob : List Prop}
    (h : roundB E fuel c s0.hp m (locSt F (T x) wth mb j []) hints s1 = some (e0, ob)) (hne : e0 ≠ .norm) (ho : ∀ p ∈ ob, p)
    (hj : wth = true → j < (T x).n) (hm : (T x).M j = mb) : FamRound E c F s0 e0 s1 T μ ok x := by
  obtain ⟨s', h1, h2, ob', h3, h4⟩ := roundB_spec h ho
  exact ⟨j, wth, mb, fuel, hints, e0, s', hj, hm, h1, h2, .inr ⟨rfl, hne, m, ob', h3, h4⟩⟩

/-! ### rows of a family's array -/
theorem valV_ptr {c : CM} {n k i j : Nat} (h : c.same n k = true) : valV c (.ptr k i j) (.ptr n i j) := ⟨rfl, fun ρ x hx => by
  simp only [den] at hx ⊢
  rw [CM.same_ren h]; exact hx⟩
theorem valV_nilp {c : CM} : valV c .nilp .nilp := ⟨rfl, fun ρ x hx => hx⟩
theorem valV_eq {c : CM} {s s' t : AV} (e : s = s') (h : valV c s' t) : valV c s t := by rw [e]; exact h

/-- Another member's cell: its names lie beyond what a cast gives out. -/
theorem valV_far {c : CM} {F : Fam} {mb : Mb} (hm : MbOk F mb) {b : Nat} (hb : ∀ k, k < F.q → c.fresh (b + k) = false) {cc : Nat} {k : CK} (hk : F.sh[cc]? = some k) : valV c (mrow F.q b mb cc) (mrow F.q b mb cc) := by
  have hkd := mrow_kind hm hk b
  refine ⟨?_, fun ρ x hx => ?_⟩
  · cases k with
    | int k => obtain ⟨n, h | h⟩ := hkd <;> rw [h] <;> rfl
    | bool => obtain ⟨n, h | h⟩ := hkd <;> rw [h] <;> rfl
    | val => exact hkd
  · have := mrow_den hm (ρ := ρ) (ρ' := c.ren ρ) (b := b) (b' := b) (fun n hn => by simp [CM.ren, hb n hn]) hk
    rw [this]; exact hx

theorem rowV_of {c : CM} {f g : Nat → AV} : ∀ (sh : List CK) (j0 : Nat), (∀ (j : Nat) k, sh[j]? = some k → k = .val ∧ valV c (f (j0 + j)) (g (j0 + j))) → rowV c sh j0 f g
  | [], _, _ => trivial
  | k :: r, j0, h => by
    obtain ⟨rfl, h0⟩ := h 0 k rfl
    refine ⟨h0, rowV_of r (j0 + 1) (fun j k hk => ?_)⟩
    have := h (j + 1) k (by simpa using hk)
    rwa [show j0 + (j + 1) = j0 + 1 + j by omega] at this

/-- The rows of a family whose cells are pointers all: all rows but j's are as they were. -/
theorem fam_rows {c : CM} {F : Fam} (hv : ∀ (j : Nat) k, F.sh[j]? = some k → k = .val) (hf : c.hi ≤ F.b0) {M M' : Nat → Mb} {n n' j : Nat} {src : Nat → Nat → AV}
    (hM : ∀ i, i < n' → i ≠ j → MbOk F (M i) ∧ M' i = M i ∧ ∀ cc, src i cc = mrow F.q (F.b0 + F.q * i) (M i) cc)
    (hj : j < n' → ∀ (cc : Nat) k, F.sh[cc]? = some k → valV c (src j cc) (mrow F.q 900 (M' j) cc)) : ∀ i, i < n' → rowV c F.sh 0 (src i) (lrow F.b0 F.q M' j i) := by
  intro i hi
  refine rowV_of F.sh 0 (fun cc k hk => ⟨hv cc k hk, ?_⟩)
  rw [Nat.zero_add]
  by_cases e : i = j
  · subst e
    simp only [lrow, if_true]
    exact hj hi cc k hk
  · obtain ⟨h1, h2, h3⟩ := hM i hi e
    simp only [lrow, e, if_false]
    rw [h3 cc, h2]
    refine valV_far h1 (fun k hk => ?_) hk
    cases hfr : c.fresh (F.b0 + F.q * i + k) with
    | false => rfl
    | true => have := (CM.fresh_iff.1 hfr).2; omega
theorem lrow_j {b0 q : Nat} {M : Nat → Mb} {j c : Nat} {mb : Mb} (h : M j = mb) : lrow b0 q M j j c = mrow q 900 mb c := by simp [lrow, h]
theorem lrow_ne {b0 q : Nat} {M : Nat → Mb} {j i c : Nat} (h : i ≠ j) : lrow b0 q M j i c = mrow q (b0 + q * i) (M i) c := by simp [lrow, h]

end Go.Ev

/-
  Code over a family: one member is looked at, then another one; sequences, loops, of such.
-/
set_option linter.unusedSimpArgs false
set_option linter.unusedVariables false
namespace Go.Ev

/-- What a piece of code makes of a family's state. -/
def FEx (P : Program) (F : Fam) (s0 : St) (c : Code) (x : FSt) (e : Ex) (y : FSt) : Prop :=
  ∀ ρ0 w0 ρ a w Q, Fresh ρ0 s0.hp.nxt (gnm 0) → GOk ρ0 → GInv P F ρ0 s0 w0 x ρ a.tmps.toList w → a.defers = [] →
    (∀ ρ' a' w', GInv P F ρ0 s0 w0 y ρ' a'.tmps.toList w' → a'.defers = [] → Q (exOf e) a' w') → c.wp P Q a w

/-- .. at whose end the family is given up. -/
def FOut (P : Program) (F : Fam) (s0 : St) (c : Code) (x : FSt) (e : Ex) (s1 : St) : Prop :=
  ∀ ρ0 w0 ρ a w Q, Fresh ρ0 s0.hp.nxt (gnm 0) → GOk ρ0 → GInv P F ρ0 s0 w0 x ρ a.tmps.toList w → a.defers = [] →
    Post P ρ0 s0.hp w0 e s1 Q → c.wp P Q a w

structure FGood (F : Fam) (x : FSt) : Prop where
  ok : FOk F x
  n : x.n ≤ 1000000

section
variable {E : Env} (hE : EnvOk E) {F : Fam} (hF : FamOk F) {s0 : St} (hS : SOk s0)
include hE hF hS

/-- A piece that looks at one member alone. -/
theorem fex_loc {c : Code} {x y : FSt} {e : Ex} (j : Nat) (wth wth' : Bool) {mb mb' : Mb} {fuel : Nat} {m : List (Nat × Src)} {hints : List Hint} {ob : List Prop}
    (h : roundB E fuel c (h0F F s0) m (locSt F x wth mb j []) hints (locSt F y wth' mb' j []) = some (e, ob)) (ho : ∀ p ∈ ob, p)
    (fx : FGood F x) (fy : FGood F y) (hj : wth = true → j < x.n) (hm : x.M j = mb) (hm' : y.M j = mb') (hw : (wth' = true ∧ j < y.n) ∨ (wth' = false ∧ y.n ≤ j))
    (same : ∀ i, i < y.n → i ≠ j → i < x.n ∧ y.M i = x.M i) : FEx E.P F s0 c x e y := by
  intro ρ0 w0 ρ a w Q f0 G g hd post
  subst hm
  subst hm'
  have hf1 : F.b0 < gnm 0 := by have := hF.hi; omega
  obtain ⟨s', hex, hobs, ob', hc, ho'⟩ := roundB_spec h ho
  obtain ⟨l1, l2, l3, l4⟩ := toLocS hF hS f0 fx.ok fx.n g (G.mono g.st.le) hj hints
  have o := (all_ok hE fuel).ex _ _ _ _ hex
  refine o.wp hobs _ a w _ ⟨l1, hd, l2.rep, l3, l4⟩ (fun ρ2 a2 w2 hr2 hd2 hs2 => ?_)
  have hn1 : s'.hp.nxt ≤ F.b0 := castSt_nxt hc
  have hn2 : s'.hp.nxt ≤ gnm 0 := by omega
  have all := l2.trans hs2 o.mono.wr (by show s0.hp.nxt ≤ 1000; have := hS.nxt; omega) hn2
  have all' : StepB E.P (gnm 0) ρ0 (h0F F s0) w0 ρ2 s'.hp w2 := ⟨all.le, all.new, all.rep, all.fr, all.own⟩
  obtain ⟨ρ3, q1, q2, q3, q4, q5, q6, q7, q8, q9, q10⟩ := castSt_okB all' (by show F.b0 ≤ gnm 0; omega) f0 hc ho' hr2
  have q2' : StepB E.P (gnm 0) ρ0 s0.hp w0 ρ3 (locSt F y wth' (y.M j) j []).hp w2 := ⟨q2.le, q2.new, q2.rep, q2.fr, q2.own⟩
  exact post _ a2 w2 (fromLocS hF hS f0 fx.ok fx.n g hj l2.rep hs2 hn1 o.mono.wr fy.ok fy.n hw same q1 q2' q4 q7 q8 q9 q10) hd2

/-- .. behind which there is no family any more. -/
theorem fout_loc {c : Code} {x : FSt} {s1 : St} {e : Ex} (j : Nat) (wth : Bool) {mb : Mb} {fuel : Nat} {m : List (Nat × Src)} {hints : List Hint} {ob : List Prop}
    (h : roundB E fuel c s0.hp m (locSt F x wth mb j []) hints s1 = some (e, ob)) (ho : ∀ p ∈ ob, p)
    (fx : FGood F x) (hj : wth = true → j < x.n) (hm : x.M j = mb) : FOut E.P F s0 c x e s1 := by
  intro ρ0 w0 ρ a w Q f0 G g hd post
  subst hm
  obtain ⟨s', hex, hobs, ob', hc, ho'⟩ := roundB_spec h ho
  obtain ⟨l1, l2, l3, l4⟩ := toLocS hF hS f0 fx.ok fx.n g (G.mono g.st.le) hj hints
  have o := (all_ok hE fuel).ex _ _ _ _ hex
  refine o.wp hobs _ a w _ ⟨l1, hd, l2.rep, l3, l4⟩ (fun ρ2 a2 w2 hr2 hd2 hs2 => ?_)
  have hn1 : s'.hp.nxt ≤ s0.hp.hi := castSt_nxt hc
  have all := l2.trans hs2 o.mono.wr (by show s0.hp.nxt ≤ 1000; have := hS.nxt; omega) (by rw [← hS.hi]; exact hn1)
  obtain ⟨ρ3, q1, q2, q3, q4, q5, q6, q7, _⟩ := castSt_okB all (by rw [hS.hi]; exact Nat.le_refl _) f0 hc ho' hr2
  refine post ρ3 a2 w2 q1 hd2 ⟨q2.le, fun n l h1 h2 => ⟨(q2.new n l h1 h2).1, ?_⟩, q2.rep, q2.fr, q2.own⟩
  rcases q3 n l h1 h2 with h | h
  · exact h
  · have := (q2.new n l h1 h2).2
    rw [hS.hi] at h; omega
end

section
variable {P : Program} {F : Fam} {s0 : St} {x y z : FSt} {e : Ex} {s1 : St}
theorem fex_seq {a b : Code} (h1 : FEx P F s0 a x .norm y) (h2 : FEx P F s0 b y e z) : FEx P F s0 (.seq a b) x e z := by
  intro ρ0 w0 ρ ac w Q f0 G g hd post
  refine wp_seq (h1 ρ0 w0 ρ ac w _ f0 G g hd (fun ρ' a' w' g' hd' => ?_))
  exact exOf_then (e := .norm) (fun _ => h2 ρ0 w0 ρ' a' w' Q f0 G g' hd' post) (fun h => (h rfl).elim)
theorem fex_seqX {a b : Code} (h1 : FEx P F s0 a x e y) (hne : e ≠ .norm) : FEx P F s0 (.seq a b) x e y := by
  intro ρ0 w0 ρ ac w Q f0 G g hd post
  exact wp_seq (h1 ρ0 w0 ρ ac w _ f0 G g hd (fun ρ' a' w' g' hd' => exOf_then (fun h => (hne h).elim) (fun _ => post ρ' a' w' g' hd')))
theorem fout_seq {a b : Code} (h1 : FEx P F s0 a x .norm y) (h2 : FOut P F s0 b y e s1) : FOut P F s0 (.seq a b) x e s1 := by
  intro ρ0 w0 ρ ac w Q f0 G g hd post
  refine wp_seq (h1 ρ0 w0 ρ ac w _ f0 G g hd (fun ρ' a' w' g' hd' => ?_))
  exact exOf_then (e := .norm) (fun _ => h2 ρ0 w0 ρ' a' w' Q f0 G g' hd' post) (fun h => (h rfl).elim)
theorem fex_block {id : Nat} {a : Code} (h : FEx P F s0 a x (.exit id) y) : FEx P F s0 (.block id a) x .norm y := by
  intro ρ0 w0 ρ ac w Q f0 G g hd post
  refine wp_block (h ρ0 w0 ρ ac w _ f0 G g hd (fun ρ' a' w' g' hd' => ?_))
  have := post ρ' a' w' g' hd'
  simpa [Exit.inBlock, exOf] using this
theorem fex_blockN {id : Nat} {a : Code} (h : FEx P F s0 a x .norm y) : FEx P F s0 (.block id a) x .norm y := by
  intro ρ0 w0 ρ ac w Q f0 G g hd post
  refine wp_block (h ρ0 w0 ρ ac w _ f0 G g hd (fun ρ' a' w' g' hd' => ?_))
  have := post ρ' a' w' g' hd'
  simpa [Exit.inBlock, exOf] using this
theorem fout_blockN {id : Nat} {a : Code} (h : FOut P F s0 a x .norm s1) : FOut P F s0 (.block id a) x .norm s1 := by
  intro ρ0 w0 ρ ac w Q f0 G g hd post
  refine wp_block (h ρ0 w0 ρ ac w _ f0 G g hd (fun ρ' a' w' r hd' st => ?_))
  have := post ρ' a' w' r hd' st
  simpa [Exit.inBlock, exOf] using this
theorem fout_block {id : Nat} {a : Code} (h : FOut P F s0 a x (.exit id) s1) : FOut P F s0 (.block id a) x .norm s1 := by
  intro ρ0 w0 ρ ac w Q f0 G g hd post
  refine wp_block (h ρ0 w0 ρ ac w _ f0 G g hd (fun ρ' a' w' r hd' st => ?_))
  have := post ρ' a' w' r hd' st
  simpa [Exit.inBlock, exOf] using this

/-- A loop of such rounds. -/
theorem fex_loop {c : Code} {X : Type} (T : X → FSt) (μ : X → Nat) (ok : X → Prop)
    (round : ∀ v, ok v → (∃ v', ok v' ∧ μ v' < μ v ∧ FEx P F s0 c (T v) .norm (T v')) ∨ (e ≠ .norm ∧ FEx P F s0 c (T v) e y)) (v : X) (hv : ok v) : FEx P F s0 (.loop c) (T v) e y := by
  intro ρ0 w0 ρ ac w Q f0 G g hd post
  have key : ∀ n v, μ v < n → ok v → ∀ ρ' a' w', GInv P F ρ0 s0 w0 (T v) ρ' a'.tmps.toList w' → a'.defers = [] → Code.rounds P c Q n a' w' := by
    intro n
    induction n with
    | zero => intro v h; omega
    | succ n IH =>
      intro v hv' hok ρ' a' w' g' hd'
      rw [rounds_succ]
      rcases round v hok with ⟨u, hu, hμ, hr⟩ | ⟨hne, hr⟩
      · exact hr ρ0 w0 ρ' a' w' _ f0 G g' hd' (fun ρ2 a2 w2 g2 hd2 => exOf_then (e := .norm) (fun _ => IH u (by omega) hu ρ2 a2 w2 g2 hd2) (fun h => (h rfl).elim))
      · exact hr ρ0 w0 ρ' a' w' _ f0 G g' hd' (fun ρ2 a2 w2 g2 hd2 => exOf_then (fun h => (hne h).elim) (fun _ => post ρ2 a2 w2 g2 hd2))
  exact wp_loop_rounds (μ v + 1) (key (μ v + 1) v (by omega) hv ρ ac w g hd)

theorem fex_cast {c : Code} {x' : FSt} (h : FEx P F s0 c x e y) (hx : x' = x) : FEx P F s0 c x' e y := by rw [hx]; exact h
end

/-- From a state without members on. -/
theorem fout_code {P : Program} {F : Fam} (hF : FamOk F) {s0 : St} (hS : SOk s0) {c : Code} {x : FSt} {e : Ex} {s1 : St} {m : List (Nat × Src)} {ob : List Prop} (fx : FGood F x) (hno : ∀ k, k < x.n → (x.M k).objs = [])
    (hc : castSt (h0F F s0) m s0 (locSt F x false ⟨[], []⟩ x.n []) = some ob) (ho : ∀ p ∈ ob, p) (h : FOut P F s0 c x e s1) :
    ∀ ρ a w Q, Pre P ρ s0.tmps s0.hp a w → Post P ρ s0.hp w e s1 Q → c.wp P Q a w := by
  intro ρ a w Q pre post
  have hf1 : F.b0 < gnm 0 := by have := hF.hi; omega
  have f0 : Fresh ρ s0.hp.nxt (gnm 0) := fun n h1 h2 => pre.fresh n h1 (by rw [hS.hi]; exact h2)
  have st0 : StepB P (gnm 0) ρ (h0F F s0) w ρ s0.hp w := ⟨Le.refl ρ, fun n l h1 h2 => (by rw [h1] at h2; cases h2), pre.rep, Fr.refl _ _, fun n o l h1 h2 h3 h4 => ⟨n, o, l, h1, rfl, h2, h3, rfl, .inl rfl⟩⟩
  obtain ⟨ρ3, q1, q2, q3, q4, q5, q6, q7, q8, q9, q10⟩ := castSt_okB st0 (by show F.b0 ≤ gnm 0; omega) f0 hc ho pre.rel
  have q2' : StepB P (gnm 0) ρ s0.hp w ρ3 (locSt F x false ⟨[], []⟩ x.n []).hp w := ⟨q2.le, q2.new, q2.rep, q2.fr, q2.own⟩
  exact h ρ w _ a w Q f0 pre.glob (initS hF hS f0 fx.ok fx.n hno q1 q2' q7) pre.defers post

/-! ### some statements, and what follows them -/
def seqs : List Code → Code → Code
  | [], c => c
  | a :: r, c => .seq a (seqs r c)
def headC : Nat → Code → List Code
  | 0, _ => []
  | k + 1, .seq a b => a :: headC k b
  | _ + 1, c => [c]
def tailC : Nat → Code → Code
  | 0, c => c
  | k + 1, .seq _ b => tailC k b
  | _ + 1, _ => .skip
def inBlock : Code → Code
  | .block _ c => c
  | c => c
def inLoop : Code → Code
  | .loop c => c
  | c => c
def fstC : Code → Code
  | .seq a _ => a
  | c => c
def sndC : Code → Code
  | .seq _ b => b
  | _ => .skip
/-- A row of statements, each of which goes on to the next. -/
theorem seqs_ok {E : Env} (hE : EnvOk E) : ∀ (l : List Code) (n : Nat) (s s' : St), exec E n (seqs l .skip) s = some (.norm, s') → Mono s.hp s'.hp ∧
    (Obs s'.hp → ∀ ρ a w c Q, Pre E.P ρ s.tmps s.hp a w → (∀ ρ' a' w', RelL ρ' s'.tmps a'.tmps.toList → a'.defers = [] → Step E.P ρ s.hp w ρ' s'.hp w' → c.wp E.P Q a' w') → (seqs l c).wp E.P Q a w)
  | [], n, s, s', h => by
    cases n with
    | zero => simp [exec] at h
    | succ n =>
      simp only [seqs, exec] at h
      cases h
      exact ⟨.refl _, fun ho ρ a w c Q pre post => post ρ a w pre.rel pre.defers (.refl pre.rep rfl)⟩
  | b :: l, n, s, s', h => by
    cases n with
    | zero => simp [exec] at h
    | succ n =>
      simp only [seqs, exec] at h
      split at h
      · rename_i s1 h1
        simp only [fSt_eq] at h
        have o1 := (all_ok hE n).ex _ _ _ _ h1
        obtain ⟨m2, o2⟩ := seqs_ok hE l n s1 s' h
        refine ⟨o1.mono.trans m2, fun ho ρ a w c Q pre post => ?_⟩
        show (Code.seq b (seqs l c)).wp E.P Q a w
        refine wp_seq (o1.wp (ho.of m2) ρ a w _ pre (fun ρ1 a1 w1 hr hd hs => ?_))
        refine exOf_then (e := .norm) (fun _ => ?_) (fun h => (h rfl).elim)
        exact o2 ho ρ1 a1 w1 c Q (pre.next hs o1.mono hr hd) (fun ρ' a' w' hr' hd' hs' => post ρ' a' w' hr' hd' (hs.trans hs' o1.mono m2))
      · rename_i hne
        exact (hne _ h).elim
section
variable {E : Env} (hE : EnvOk E) {F : Fam} (hF : FamOk F) {s0 : St} (hS : SOk s0)
include hE hF hS
/-- Some statements that look at one member alone, and then others. -/
theorem fex_pre {l : List Code} {x y : FSt} (j : Nat) (wth wth' : Bool) {mb mb' : Mb} {fuel : Nat} {m : List (Nat × Src)} {hints : List Hint} {ob : List Prop}
    (h : roundB E fuel (seqs l .skip) (h0F F s0) m (locSt F x wth mb j []) hints (locSt F y wth' mb' j []) = some (.norm, ob)) (ho : ∀ p ∈ ob, p)
    (fx : FGood F x) (fy : FGood F y) (hj : wth = true → j < x.n) (hm : x.M j = mb) (hm' : y.M j = mb') (hw : (wth' = true ∧ j < y.n) ∨ (wth' = false ∧ y.n ≤ j))
    (same : ∀ i, i < y.n → i ≠ j → i < x.n ∧ y.M i = x.M i) {c : Code} {e : Ex} {z : FSt} (hc : FEx E.P F s0 c y e z) : FEx E.P F s0 (seqs l c) x e z := by
  intro ρ0 w0 ρ a w Q f0 G g hd post
  subst hm
  subst hm'
  have hf1 : F.b0 < gnm 0 := by have := hF.hi; omega
  obtain ⟨s', hex, hobs, ob', hcs, ho'⟩ := roundB_spec h ho
  obtain ⟨l1, l2, l3, l4⟩ := toLocS hF hS f0 fx.ok fx.n g (G.mono g.st.le) hj hints
  obtain ⟨om, o⟩ := seqs_ok hE l fuel _ _ hex
  refine o hobs _ a w c Q ⟨l1, hd, l2.rep, l3, l4⟩ (fun ρ2 a2 w2 hr2 hd2 hs2 => ?_)
  have hn1 : s'.hp.nxt ≤ F.b0 := castSt_nxt hcs
  have hn2 : s'.hp.nxt ≤ gnm 0 := by omega
  have all := l2.trans hs2 om.wr (by show s0.hp.nxt ≤ 1000; have := hS.nxt; omega) hn2
  have all' : StepB E.P (gnm 0) ρ0 (h0F F s0) w0 ρ2 s'.hp w2 := ⟨all.le, all.new, all.rep, all.fr, all.own⟩
  obtain ⟨ρ3, q1, q2, q3, q4, q5, q6, q7, q8, q9, q10⟩ := castSt_okB all' (by show F.b0 ≤ gnm 0; omega) f0 hcs ho' hr2
  have q2' : StepB E.P (gnm 0) ρ0 s0.hp w0 ρ3 (locSt F y wth' (y.M j) j []).hp w2 := ⟨q2.le, q2.new, q2.rep, q2.fr, q2.own⟩
  exact hc ρ0 w0 _ a2 w2 Q f0 G (fromLocS hF hS f0 fx.ok fx.n g hj l2.rep hs2 hn1 om.wr fy.ok fy.n hw same q1 q2' q4 q7 q8 q9 q10) hd2 post
end
/-- A loop over a family that is given up at its end. -/
theorem fout_loop {P : Program} {F : Fam} {s0 s1 : St} {e : Ex} {c : Code} {X : Type} (T : X → FSt) (μ : X → Nat) (ok : X → Prop)
    (round : ∀ v, ok v → (∃ v', ok v' ∧ μ v' < μ v ∧ FEx P F s0 c (T v) .norm (T v')) ∨ (e ≠ .norm ∧ FOut P F s0 c (T v) e s1)) (v : X) (hv : ok v) : FOut P F s0 (.loop c) (T v) e s1 := by
  intro ρ0 w0 ρ ac w Q f0 G g hd post
  have key : ∀ n v, μ v < n → ok v → ∀ ρ' a' w', GInv P F ρ0 s0 w0 (T v) ρ' a'.tmps.toList w' → a'.defers = [] → Code.rounds P c Q n a' w' := by
    intro n
    induction n with
    | zero => intro v h; omega
    | succ n IH =>
      intro v hv' hok ρ' a' w' g' hd'
      rw [rounds_succ]
      rcases round v hok with ⟨u, hu, hμ, hr⟩ | ⟨hne, hr⟩
      · exact hr ρ0 w0 ρ' a' w' _ f0 G g' hd' (fun ρ2 a2 w2 g2 hd2 => exOf_then (e := .norm) (fun _ => IH u (by omega) hu ρ2 a2 w2 g2 hd2) (fun h => (h rfl).elim))
      · exact hr ρ0 w0 ρ' a' w' _ f0 G g' hd' (fun ρ2 a2 w2 r2 hd2 st2 => exOf_then (fun h => (hne h).elim) (fun _ => post ρ2 a2 w2 r2 hd2 st2))
  exact wp_loop_rounds (μ v + 1) (key (μ v + 1) v (by omega) hv ρ ac w g hd)

/-! ### rows of any kinds -/
theorem rowV_far {c : CM} {F : Fam} {mb : Mb} (hm : MbOk F mb) {b : Nat} (hb : ∀ k, k < F.q → c.fresh (b + k) = false) : ∀ (sh : List CK) (j0 : Nat), (∀ (j : Nat) k, sh[j]? = some k → F.sh[j0 + j]? = some k) → rowV c sh j0 (fun cc => mrow F.q b mb cc) (fun cc => mrow F.q b mb cc)
  | [], _, _ => trivial
  | k :: r, j0, h => by
    have h0 : F.sh[j0]? = some k := h 0 k rfl
    have hr := rowV_far hm hb r (j0 + 1) (fun j k hk => by
      have := h (j + 1) k (by simpa using hk)
      rwa [show j0 + (j + 1) = j0 + 1 + j by omega] at this)
    have hv := valV_far hm hb h0
    obtain ⟨v, h1, h2, h3⟩ := hm.cells j0 k h0
    cases k with
    | int k =>
      obtain ⟨n, rfl⟩ := h3
      refine ⟨?_, hr⟩
      show mrow F.q b mb j0 = .sym k (avInt (mrow F.q b mb j0))
      have e : mrow F.q b mb j0 = .sym k n := by unfold mrow; rw [h1]; rfl
      rw [e]; rfl
    | bool =>
      obtain ⟨n, rfl⟩ := h3
      refine ⟨?_, hr⟩
      show mrow F.q b mb j0 = .symb (avBool (mrow F.q b mb j0))
      have e : mrow F.q b mb j0 = .symb n := by unfold mrow; rw [h1]; rfl
      rw [e]; rfl
    | val => exact ⟨hv, hr⟩
theorem rowV_eq {c : CM} {f f' g g' : Nat → AV} (e1 : ∀ cc, f cc = f' cc) (e2 : ∀ cc, g cc = g' cc) {sh : List CK} {j : Nat} (h : rowV c sh j f' g') : rowV c sh j f g := by
  obtain rfl : f = f' := funext e1
  obtain rfl : g = g' := funext e2
  exact h
/-- All rows but j's are as they were. -/
theorem fam_rowsK {c : CM} {F : Fam} (hf : c.hi ≤ F.b0) {M M' : Nat → Mb} {n' j : Nat} {src : Nat → Nat → AV}
    (hM : ∀ i, i < n' → i ≠ j → MbOk F (M i) ∧ M' i = M i ∧ ∀ cc, src i cc = mrow F.q (F.b0 + F.q * i) (M i) cc)
    (hj : j < n' → rowV c F.sh 0 (src j) (fun cc => mrow F.q 900 (M' j) cc)) : ∀ i, i < n' → rowV c F.sh 0 (src i) (lrow F.b0 F.q M' j i) := by
  intro i hi
  by_cases e : i = j
  · subst e
    exact rowV_eq (fun _ => rfl) (fun cc => by simp [lrow]) (hj hi)
  · obtain ⟨h1, h2, h3⟩ := hM i hi e
    refine rowV_eq (f' := fun cc => mrow F.q (F.b0 + F.q * i) (M i) cc) (g' := fun cc => mrow F.q (F.b0 + F.q * i) (M i) cc) h3 (fun cc => by simp only [lrow, e, if_false]; rw [h2]) ?_
    refine rowV_far h1 (fun k hk => ?_) F.sh 0 (fun j k hk => by simpa using hk)
    cases hfr : c.fresh (F.b0 + F.q * i + k) with
    | false => rfl
    | true => have := (CM.fresh_iff.1 hfr).2; omega
end Go.Ev

/-
  A law's run in two: statements by the evaluator, and then code by any proof.
-/
set_option linter.unusedSimpArgs false
set_option linter.unusedVariables false
namespace Go.Ev
/-- What is to be shown of a law's call, from a heap as the evaluator sees it. -/
def RunsAt (P : Program) (f : Nat) (args : List AV) (heap : List (Nat × AO)) (nxt : Nat) : Prop :=
  ∀ (W : World) (xs : List Value) (ρ : Ren), HeapRep P ρ heap W → denL ρ args = some xs → Fresh ρ nxt (gnm 0) → GOk ρ →
    Calls P f xs.toArray W fun e W' => e = .returned (.bool true) ∧ RowKit.Below W.heap.size W W'
theorem runsAt_of {E : Env} (hE : EnvOk E) {fuel f : Nat} {args : List AV} {heap : List (Nat × AO)} {nxt : Nat} {hints : List Hint} {auto : Bool} {v : AV} {ob : List Prop}
    (hcall : (callF E fuel f args ⟨heap, nxt, gnm 0, hints, [], [], auto⟩).map (fun x => (x.1, x.2.ob, noneIn heap x.2.wr)) = some (v, ob, true)) (hv : isTrue v) (hob : ∀ p ∈ ob, p) : RunsAt E.P f args heap nxt :=
  fun _ _ _ hrep hx hf hg => run_lawG hE hcall hv hob hrep hx hf hg
/-- What a piece of code makes of a state: LoopHolds of any code. -/
def CodeHolds (P : Program) (c : Code) (s : St) (e : Ex) (s' : St) : Prop :=
  ∀ ρ a w Q, Pre P ρ s.tmps s.hp a w → Post P ρ s.hp w e s' Q → c.wp P Q a w
/-- A law's call: statements l are evaluated, what comes behind them is shown otherwise. -/
theorem runsAt_split {E : Env} (hE : EnvOk E) {fuel f : Nat} {fn : Func} {l : List Code} {c : Code} {args : List AV} {heap : List (Nat × AO)} {nxt : Nat} {hints : List Hint} {m : List (Nat × Src)} {s0 s1 : St} {e : Ex} {ob : List Prop} {v : AV}
    (hfn : E.P.funcs[f]? = some fn) (hb : fn.body = some (seqs l c))
    (hcut : roundB E fuel (seqs l .skip) ⟨heap, nxt, gnm 0, [], [], [], false⟩ m ⟨args ++ List.replicate (fn.ntmps - args.length) (.tup []), ⟨heap, nxt, gnm 0, [], [], [], false⟩⟩ hints s0 = some (.norm, ob)) (hob : ∀ p ∈ ob, p)
    (he : e = .norm ∨ e = .ret) (hc : CodeHolds E.P c s0 e s1)
    (hres : resultsA E.P s1.tmps fn.results.toList ⟨[], 0, 0, [], [], [], false⟩ = some ([v], ⟨[], 0, 0, [], [], [], false⟩)) (hv : isTrue v)
    (hwr : noneIn heap s1.hp.wr = true) (hmono : ∀ n ∈ s0.hp.wr, n ∈ s1.hp.wr) (hnx : s1.hp.nxt ≤ gnm 0) : RunsAt E.P f args heap nxt := by
  intro W xs ρ hrep hx hf hg
  obtain ⟨s', hex, hobs, ob', hcs, ho'⟩ := roundB_spec hcut hob
  obtain ⟨om, o⟩ := seqs_ok hE l fuel _ _ hex
  refine calls_of_wp hfn hb ?_
  have hlen := denL_length _ _ hx
  have hrel : RelL ρ (args ++ List.replicate (fn.ntmps - args.length) (.tup [])) (xs.toArray ++ Array.replicate (fn.ntmps - xs.toArray.size) undef).toList := by
    have h1 : (xs.toArray ++ Array.replicate (fn.ntmps - xs.toArray.size) undef).toList = xs ++ List.replicate (fn.ntmps - args.length) undef := by simp [hlen]
    rw [h1]
    refine relL_append (denL.rel hx) ⟨by simp, fun k v hk => ?_⟩
    rw [List.getElem?_replicate] at hk ⊢
    split at hk
    · rename_i hlt; cases hk; rw [if_pos hlt]; exact ⟨undef, rfl, undef_rel ρ⟩
    · cases hk
  refine o hobs ρ _ W c _ ⟨hrel, rfl, hrep, hf, hg⟩ (fun ρ2 a2 w2 hr2 hd2 hs2 => ?_)
  have hn1 : s'.hp.nxt ≤ gnm 0 := castSt_nxt hcs
  have st1 : StepB E.P (gnm 0) ρ ⟨heap, nxt, gnm 0, [], [], [], false⟩ W ρ2 s'.hp w2 := ⟨hs2.le, fun n l h1 h2 => (let q := hs2.new n l h1 h2; ⟨q.1, Nat.lt_of_lt_of_le q.2 hn1⟩), hs2.rep, hs2.fr, hs2.own⟩
  obtain ⟨ρ3, q1, q2, q3, q4, q5, q6, q7, q8, q9, q10⟩ := castSt_okB st1 (Nat.le_refl _) hf hcs ho' hr2
  refine hc ρ3 a2 w2 _ ⟨q1, hd2, q2.rep, q4, hg.mono q2.le⟩ (fun ρ4 a4 w4 hr4 hd4 hs4 => ?_)
  have all := q2.trans hs4 hmono q5 hnx
  obtain ⟨_, hres'⟩ := results_ok (P := E.P) (ρ := ρ4) (w := w4) hr4 fn.results.toList _ _ [v] hres
  obtain ⟨ys, hy1, hy2⟩ := hres' (fun p hp => by cases hp) ⟨fun _ _ q => by simp [get] at q, fun _ _ _ _ _ _ q => by simp [get] at q⟩
  have hrun := results_run hy2
  have fin : Go.Ending.returned (oneOrAllV ys) = Go.Ending.returned (.bool true) ∧ RowKit.Below W.heap.size W w4 := by
    refine ⟨?_, all.fr.below fun b _ ⟨m, hm, o, l, h1, _⟩ => ?_⟩
    · have hr : relS ρ4 (oneOrAll [v]) (oneOrAllV ys) := oneOrAll_den hy1
      have hr : relS ρ4 v (oneOrAllV ys) := hr
      rcases hv with rfl | rfl
      · simp [relS, den] at hr
        simp [← hr]
      · simp [relS, den] at hr
        simp [← hr]
    · rw [noneIn_get _ hwr m hm] at h1; cases h1
  rcases he with rfl | rfl
  · exact ⟨hd4, _, hrun, fin⟩
  · exact ⟨hd4, _, hrun, fin⟩
end Go.Ev

/-
  A loop over a family whose end is found on the way.
-/
set_option linter.unusedSimpArgs false
set_option linter.unusedVariables false
namespace Go.Ev
/-- A loop whose rounds' states are known one by one: there is an end. -/
theorem fex_loopE {P : Program} {F : Fam} {s0 : St} {e : Ex} {c : Code} {X : Type} (T : X → FSt) (μ : X → Nat) (ok : X → Prop) (R : FSt → Prop) (he : e ≠ .norm)
    (round : ∀ v, ok v → (∃ v', ok v' ∧ μ v' < μ v ∧ FEx P F s0 c (T v) .norm (T v')) ∨ (∃ y, R y ∧ FEx P F s0 c (T v) e y)) (v : X) (hv : ok v) : ∃ y, R y ∧ FEx P F s0 (.loop c) (T v) e y := by
  have key : ∀ n v, μ v < n → ok v → ∃ y, R y ∧ ∀ ρ0 w0 Q, Fresh ρ0 s0.hp.nxt (gnm 0) → GOk ρ0 → (∀ ρ' a' w', GInv P F ρ0 s0 w0 y ρ' a'.tmps.toList w' → a'.defers = [] → Q (exOf e) a' w') →
      ∀ ρ a w, GInv P F ρ0 s0 w0 (T v) ρ a.tmps.toList w → a.defers = [] → Code.rounds P c Q n a w := by
    intro n
    induction n with
    | zero => intro v h; omega
    | succ n IH =>
      intro v hv' hok
      rcases round v hok with ⟨u, hu, hμ, hr⟩ | ⟨y, hR, hr⟩
      · obtain ⟨y, hR, hy⟩ := IH u (by omega) hu
        refine ⟨y, hR, fun ρ0 w0 Q f0 G post ρ a w g hd => ?_⟩
        rw [rounds_succ]
        exact hr ρ0 w0 ρ a w _ f0 G g hd (fun ρ2 a2 w2 g2 hd2 => exOf_then (e := .norm) (fun _ => hy ρ0 w0 Q f0 G post ρ2 a2 w2 g2 hd2) (fun h => (h rfl).elim))
      · refine ⟨y, hR, fun ρ0 w0 Q f0 G post ρ a w g hd => ?_⟩
        rw [rounds_succ]
        exact hr ρ0 w0 ρ a w _ f0 G g hd (fun ρ2 a2 w2 g2 hd2 => exOf_then (fun h => (he h).elim) (fun _ => post ρ2 a2 w2 g2 hd2))
  obtain ⟨y, hR, hy⟩ := key (μ v + 1) v (by omega) hv
  exact ⟨y, hR, fun ρ0 w0 ρ a w Q f0 G g hd post => wp_loop_rounds (μ v + 1) (hy ρ0 w0 Q f0 G post ρ a w g hd)⟩
/-- Code, by its evaluation from a state to a state. -/
theorem code_of {E : Env} (hE : EnvOk E) {fuel : Nat} {c : Code} {s1 s2 : St} {m : List (Nat × Src)} {hints : List Hint} {e : Ex} {ob : List Prop}
    (h : roundB E fuel c s1.hp m s1 hints s2 = some (e, ob)) (ho : ∀ p ∈ ob, p) (hhi : s1.hp.hi = gnm 0) (hnx : s1.hp.nxt ≤ gnm 0) : CodeHolds E.P c s1 e s2 := by
  intro ρ a w Q pre post
  obtain ⟨s', hex, hobs, ob', hc, ho'⟩ := roundB_spec h ho
  have o := (all_ok hE fuel).ex _ _ _ _ hex
  refine o.wp hobs ρ a w Q ⟨pre.rel, pre.defers, pre.rep, pre.fresh, pre.glob⟩ (fun ρ2 a2 w2 hr2 hd2 hs2 => ?_)
  have hn1 : s'.hp.nxt ≤ s1.hp.hi := castSt_nxt hc
  have f0 : Fresh ρ s1.hp.nxt (gnm 0) := fun n h1 h2 => pre.fresh n h1 (by rw [hhi]; exact h2)
  have st : StepB E.P (gnm 0) ρ s1.hp w ρ2 s'.hp w2 := ⟨hs2.le, fun n l h1 h2 => (let q := hs2.new n l h1 h2; ⟨q.1, Nat.lt_of_lt_of_le q.2 (by rw [← hhi]; exact hn1)⟩), hs2.rep, hs2.fr, hs2.own⟩
  obtain ⟨ρ3, q1, q2, q3, q4, q5, q6, q7, _⟩ := castSt_okB st (by rw [hhi]; exact Nat.le_refl _) f0 hc ho' hr2
  refine post ρ3 a2 w2 q1 hd2 ⟨q2.le, fun n l h1 h2 => ⟨(q2.new n l h1 h2).1, ?_⟩, q2.rep, q2.fr, q2.own⟩
  rcases q3 n l h1 h2 with h | h
  · exact h
  · have := (q2.new n l h1 h2).2
    rw [hhi] at h; omega
theorem code_seq {P : Program} {a b : Code} {s s1 s2 : St} {e : Ex} (ha : CodeHolds P a s .norm s1) (hb : CodeHolds P b s1 e s2) (m1 : Mono s.hp s1.hp) (m2 : Mono s1.hp s2.hp) : CodeHolds P (.seq a b) s e s2 := by
  intro ρ ac w Q pre post
  refine wp_seq (ha ρ ac w _ pre (fun ρ1 a1 w1 hr hd hs => ?_))
  refine exOf_then (e := .norm) (fun _ => ?_) (fun h => (h rfl).elim)
  exact hb ρ1 a1 w1 Q (pre.next hs m1 hr hd) (fun ρ2 a2 w2 hr2 hd2 hs2 => post ρ2 a2 w2 hr2 hd2 (hs.trans hs2 m1 m2))
/-- A piece that gives the family up, and code behind it. -/
theorem fout_then {P : Program} {F : Fam} {s0 s1 s2 : St} {x : FSt} {a b : Code} {e : Ex} (ha : FOut P F s0 a x .norm s1) (hb : CodeHolds P b s1 e s2) (hhi : s0.hp.hi = gnm 0) (m1 : Mono s0.hp s1.hp) (m2 : Mono s1.hp s2.hp) : FOut P F s0 (.seq a b) x e s2 := by
  intro ρ0 w0 ρ ac w Q f0 G g hd post
  refine wp_seq (ha ρ0 w0 ρ ac w _ f0 G g hd (fun ρ1 a1 w1 hr1 hd1 hs1 => ?_))
  refine exOf_then (e := .norm) (fun _ => ?_) (fun h => (h rfl).elim)
  refine hb ρ1 a1 w1 Q ⟨hr1, hd1, hs1.rep, fun n h1 h2 => ?_, G.mono hs1.le⟩ (fun ρ2 a2 w2 hr2 hd2 hs2 => post ρ2 a2 w2 hr2 hd2 (hs1.trans hs2 m1 m2))
  cases hn : ρ1 n with
  | none => rfl
  | some l =>
    have h3 : ρ0 n = none := f0 n (Nat.le_trans m1.nxt h1) (by rw [m1.hi, hhi] at h2; exact h2)
    have := (hs1.new n l h3 hn).2
    omega
theorem code_block {P : Program} {id : Nat} {c : Code} {s s' : St} (h : LoopHolds P c s (.exit id) s') : CodeHolds P (.block id (.loop c)) s .norm s' := by
  intro ρ a w Q pre post
  refine wp_block (h ρ a w _ pre (fun ρ' a' w' hr hd hs => ?_))
  have := post ρ' a' w' hr hd hs
  simpa [Exit.inBlock, exOf] using this
section
variable {E : Env} (hE : EnvOk E) {F : Fam} (hF : FamOk F) {s0 : St} (hS : SOk s0)
include hE hF hS
/-- A family's state seen otherwise, one member; then code. -/
theorem fout_pre {l : List Code} {x y : FSt} (j : Nat) (wth wth' : Bool) {mb mb' : Mb} {fuel : Nat} {m : List (Nat × Src)} {hints : List Hint} {ob : List Prop}
    (h : roundB E fuel (seqs l .skip) (h0F F s0) m (locSt F x wth mb j []) hints (locSt F y wth' mb' j []) = some (.norm, ob)) (ho : ∀ p ∈ ob, p)
    (fx : FGood F x) (fy : FGood F y) (hj : wth = true → j < x.n) (hm : x.M j = mb) (hm' : y.M j = mb') (hw : (wth' = true ∧ j < y.n) ∨ (wth' = false ∧ y.n ≤ j))
    (same : ∀ i, i < y.n → i ≠ j → i < x.n ∧ y.M i = x.M i) {c : Code} {e : Ex} {s1 : St} (hc : FOut E.P F s0 c y e s1) : FOut E.P F s0 (seqs l c) x e s1 := by
  intro ρ0 w0 ρ a w Q f0 G g hd post
  subst hm
  subst hm'
  have hf1 : F.b0 < gnm 0 := by have := hF.hi; omega
  obtain ⟨s', hex, hobs, ob', hcs, ho'⟩ := roundB_spec h ho
  obtain ⟨l1, l2, l3, l4⟩ := toLocS hF hS f0 fx.ok fx.n g (G.mono g.st.le) hj hints
  obtain ⟨om, o⟩ := seqs_ok hE l fuel _ _ hex
  refine o hobs _ a w c Q ⟨l1, hd, l2.rep, l3, l4⟩ (fun ρ2 a2 w2 hr2 hd2 hs2 => ?_)
  have hn1 : s'.hp.nxt ≤ F.b0 := castSt_nxt hcs
  have hn2 : s'.hp.nxt ≤ gnm 0 := by omega
  have all := l2.trans hs2 om.wr (by show s0.hp.nxt ≤ 1000; have := hS.nxt; omega) hn2
  have all' : StepB E.P (gnm 0) ρ0 (h0F F s0) w0 ρ2 s'.hp w2 := ⟨all.le, all.new, all.rep, all.fr, all.own⟩
  obtain ⟨ρ3, q1, q2, q3, q4, q5, q6, q7, q8, q9, q10⟩ := castSt_okB all' (by show F.b0 ≤ gnm 0; omega) f0 hcs ho' hr2
  have q2' : StepB E.P (gnm 0) ρ0 s0.hp w0 ρ3 (locSt F y wth' (y.M j) j []).hp w2 := ⟨q2.le, q2.new, q2.rep, q2.fr, q2.own⟩
  exact hc ρ0 w0 _ a2 w2 Q f0 G (fromLocS hF hS f0 fx.ok fx.n g hj l2.rep hs2 hn1 om.wr fy.ok fy.n hw same q1 q2' q4 q7 q8 q9 q10) hd2 post
end
theorem valV_nils {c : CM} {n wd : Nat} (hf : c.fresh n = true) (hm : get c.m n = some (.nil wd)) : valV c .nils (.ss wd n 0 0 none) := ⟨rfl, fun ρ x hx => by
  simp only [den] at hx ⊢
  cases hx
  have : c.ren ρ n = some (nilLoc wd) := by unfold CM.ren; rw [hf]; simp only [hm]
  rw [this]
  simp [Loc.slice, nilLoc, capOr]⟩
end Go.Ev

/-
  A region that draws its order: every order is gone through. For regions with two operations that may change places though one of them writes what the other one reads ('m[k]++' of a map).
-/
set_option linter.unusedSimpArgs false
set_option linter.unusedVariables false
namespace Go.Ev
/-- All ends of all orders. -/
def anyL (f : Nat → Option (List St)) : List Nat → Option (List St)
  | [] => some []
  | i :: r => match f i, anyL f r with
    | some a, some b => some (a ++ b)
    | _, _ => none
def anyX (E : Env) (fu : Nat) (ops : Array Oper) : Nat → Array Bool → St → Option (List St)
  | 0, listed, s => match Region.ready .any ops listed with
    | [] => some [s]
    | _ => none
  | n + 1, listed, s => match Region.ready .any ops listed with
    | [] => some [s]
    | i :: r => anyL (fun i => match ops[i]? with
      | none => none
      | some o => match o.guard with
        | some _ => none
        | none => match oper E fu s.tmps o.op s.hp with
          | some (v, h) => anyX E fu ops n (listed.setIfInBounds i true) ⟨putT s.tmps o.dst v, h⟩
          | none => none) (i :: r)
theorem anyL_get {f : Nat → Option (List St)} : ∀ (r : List Nat) (l : List St), anyL f r = some l → ∀ i ∈ r, ∃ a, f i = some a ∧ ∀ t ∈ a, t ∈ l
  | [], l, h, i, hi => by cases hi
  | j :: r, l, h, i, hi => by
    simp only [anyL] at h
    split at h
    · rename_i a b ha hb
      cases h
      rcases List.mem_cons.1 hi with e | e
      · subst e; exact ⟨a, ha, fun t ht => List.mem_append_left _ ht⟩
      · obtain ⟨c, hc, hs⟩ := anyL_get r b hb i e
        exact ⟨c, hc, fun t ht => List.mem_append_right _ (hs t ht)⟩
    · cases h
theorem anyL_ne {f : Nat → Option (List St)} {i : Nat} {r : List Nat} {l : List St} (h : anyL f (i :: r) = some l) (hf : ∀ a, f i = some a → a ≠ []) : l ≠ [] := by
  obtain ⟨a, ha, hs⟩ := anyL_get _ l h i (List.mem_cons_self ..)
  have := hf a ha
  cases a with
  | nil => exact absurd rfl this
  | cons t a => intro e; have := hs t (List.mem_cons_self ..); rw [e] at this; cases this
theorem anyL_all {f : Nat → Option (List St)} : ∀ (r : List Nat) (l : List St), anyL f r = some l → ∀ t ∈ l, ∃ i ∈ r, ∃ a, f i = some a ∧ t ∈ a
  | [], l, h, t, ht => by simp only [anyL] at h; cases h; cases ht
  | j :: r, l, h, t, ht => by
    simp only [anyL] at h
    split at h
    · rename_i a b ha hb
      cases h
      rcases List.mem_append.1 ht with e | e
      · exact ⟨j, List.mem_cons_self .., a, ha, e⟩
      · obtain ⟨i, hi, c, hc, hs⟩ := anyL_all r b hb t e
        exact ⟨i, List.mem_cons_of_mem _ hi, c, hc, hs⟩
    · cases h
section
variable {E : Env} (hE : EnvOk E) {fu : Nat} {ops : Array Oper} {Q : Exit → Act → World → Prop}
include hE
theorem anyX_ok : ∀ (n : Nat) (listed : Array Bool) (s : St) (l : List St), anyX E fu ops n listed s = some l → l ≠ [] ∧ (∀ t ∈ l, Mono s.hp t.hp) ∧
    ∀ {ρ0 : Ren} {h0 : Hp} {w0 : World}, (∀ t ∈ l, Obs t.hp) → ∀ ρ a w, Pre E.P ρ s.tmps s.hp a w → Step E.P ρ0 h0 w0 ρ s.hp w → Mono h0 s.hp →
      (∀ t ∈ l, ∀ ρ' a' w', RelL ρ' t.tmps a'.tmps.toList → a'.defers = [] → Step E.P ρ0 h0 w0 ρ' t.hp w' → Q .normal a' w') → wpAny E.P .any ops Q n listed a w := by
  intro n
  induction n with
  | zero =>
    intro listed s l h
    simp only [anyX] at h
    split at h
    · rename_i hr
      cases h
      refine ⟨by simp, fun t ht => ?_, fun ho ρ a w pre st m post => ⟨hr, ?_⟩⟩
      · rw [List.mem_singleton] at ht; rw [ht]; exact .refl _
      · exact post s (List.mem_cons_self ..) ρ a w pre.rel pre.defers st
    · cases h
  | succ n IH =>
    intro listed s l h
    simp only [anyX] at h
    split at h
    · rename_i hr
      cases h
      refine ⟨by simp, fun t ht => ?_, fun ho ρ a w pre st m post => ⟨fun _ => ?_, fun i hi => ?_⟩⟩
      · rw [List.mem_singleton] at ht; rw [ht]; exact .refl _
      · exact post s (List.mem_cons_self ..) ρ a w pre.rel pre.defers st
      · rw [hr] at hi; cases hi
    · rename_i i0 r0 hr
      have one : ∀ i b, (match ops[i]? with
          | none => none
          | some o => match o.guard with
            | some _ => none
            | none => match oper E fu s.tmps o.op s.hp with
              | some (v, h) => anyX E fu ops n (listed.setIfInBounds i true) ⟨putT s.tmps o.dst v, h⟩
              | none => none) = some b → ∃ o v h', ops[i]? = some o ∧ o.guard = none ∧ oper E fu s.tmps o.op s.hp = some (v, h') ∧ anyX E fu ops n (listed.setIfInBounds i true) ⟨putT s.tmps o.dst v, h'⟩ = some b := by
        intro i b hb
        split at hb
        · cases hb
        · rename_i o ho
          split at hb
          · cases hb
          · rename_i hg
            split at hb
            · rename_i v h' hop
              exact ⟨o, v, h', ho, hg, hop, hb⟩
            · cases hb
      refine ⟨anyL_ne h (fun b hb => ?_), fun t ht => ?_, fun ho ρ a w pre st m post => ⟨fun e => ?_, fun i hi => ?_⟩⟩
      · obtain ⟨o, v, h', _, _, _, hx⟩ := one i0 b hb
        exact (IH _ _ _ hx).1
      · obtain ⟨i, hi, b, hb, htb⟩ := anyL_all _ l h t ht
        obtain ⟨o, v, h', _, _, hop, hx⟩ := one i b hb
        exact ((all_ok hE fu).op _ _ _ _ _ hop).mono.trans ((IH _ _ _ hx).2.1 t htb)
      · rw [hr] at e; cases e
      · rw [hr] at hi
        obtain ⟨b, hb, hs⟩ := anyL_get _ l h i hi
        obtain ⟨o, v, h', ho1, hg, hop, hx⟩ := one i b hb
        obtain ⟨i1, i2, i3⟩ := IH _ _ _ hx
        have oo := (all_ok hE fu).op _ _ _ _ _ hop
        have hobs : Obs h' := by
          cases b with
          | nil => exact absurd rfl i1
          | cons t b => exact (ho t (hs t (List.mem_cons_self ..))).of (i2 t (List.mem_cons_self ..))
        unfold wpOp
        rw [ho1]
        simp only
        rw [if_pos (by unfold Region.wanted; rw [hg])]
        refine .inl (oo.wp hobs ρ a w pre o Q _ rfl (fun ρ' x w' hv hs' => ?_))
        refine i3 (fun t ht => ho t (hs t ht)) ρ' _ w' ⟨relL_put o.dst (pre.rel.mono hs'.le) hv, by rw [put_defers]; exact pre.defers, hs'.rep, hs'.fresh oo.mono pre.fresh, pre.glob.mono hs'.le⟩ (st.trans hs' m oo.mono) (m.trans oo.mono) (fun t ht => post t (hs t ht))
/-- The region: whatever the order, the end is one state. -/
theorem region_anyX {id : Nat} {s s1 : St} {l : List St} (hm : E.P.follows .mixedOrders = true) (h : anyX E fu ops ops.size (Array.replicate ops.size false) s = some l) (hl : ∀ t ∈ l, t = s1) (ho : Obs s1.hp) : CodeHolds E.P (.region id ops true) s .norm s1 := by
  intro ρ a w Q pre post
  refine wp_region_any hm ?_
  obtain ⟨_, _, k⟩ := anyX_ok hE (Q := Q) _ _ _ _ h
  have hfr : ∀ b, Fr w { w with drawn := w.drawn + 1 } b := fun b => ⟨Nat.le_refl _, fun _ _ _ => rfl, rfl, rfl, rfl⟩
  have hrep : HeapRep E.P ρ s.hp.heap { w with drawn := w.drawn + 1 } := pre.rep.congr (w' := { w with drawn := w.drawn + 1 }) rfl
  refine k (ρ0 := ρ) (h0 := s.hp) (w0 := w) (fun t ht => by rw [hl t ht]; exact ho) ρ a _ ⟨pre.rel, pre.defers, hrep, pre.fresh, pre.glob⟩ ⟨Le.refl ρ, fun n l h1 h2 => (by rw [h1] at h2; cases h2), hrep, hfr _, fun n o l h1 h2 h3 _ => ⟨n, o, l, h1, rfl, h2, h3, rfl, .inl rfl⟩⟩ (.refl _) (fun t ht ρ' a' w' hr hd hs => ?_)
  rw [hl t ht] at hr hs
  exact post ρ' a' w' hr hd hs
end
/-! ### a loop, round by round -/
def RoundsHold (P : Program) (c : Code) (n : Nat) (s : St) (e : Ex) (s2 : St) : Prop :=
  ∀ ρ a w Q, Pre P ρ s.tmps s.hp a w → Post P ρ s.hp w e s2 Q → Code.rounds P c Q n a w
theorem rounds_last {P : Program} {c : Code} {s s2 : St} {e : Ex} (he : e ≠ .norm) (h : CodeHolds P c s e s2) : RoundsHold P c 1 s e s2 := by
  intro ρ a w Q pre post
  rw [rounds_succ]
  exact h ρ a w _ pre (fun ρ' a' w' hr hd hs => exOf_then (fun q => (he q).elim) (fun _ => post ρ' a' w' hr hd hs))
theorem rounds_next {P : Program} {c : Code} {n : Nat} {s s1 s2 : St} {e : Ex} (h : CodeHolds P c s .norm s1) (hn : RoundsHold P c n s1 e s2) (m1 : Mono s.hp s1.hp) (m2 : Mono s1.hp s2.hp) : RoundsHold P c (n + 1) s e s2 := by
  intro ρ a w Q pre post
  rw [rounds_succ]
  exact h ρ a w _ pre (fun ρ' a' w' hr hd hs => exOf_then (e := .norm) (fun _ => hn ρ' a' w' Q (pre.next hs m1 hr hd) (fun ρ2 a2 w2 hr2 hd2 hs2 => post ρ2 a2 w2 hr2 hd2 (hs.trans hs2 m1 m2))) (fun q => (q rfl).elim))
theorem rounds_loop {P : Program} {c : Code} {n : Nat} {s s2 : St} {e : Ex} (h : RoundsHold P c n s e s2) : LoopHolds P c s e s2 := fun ρ a w Q pre post => wp_loop_rounds n (h ρ a w Q pre post)
theorem code_blockN {P : Program} {id : Nat} {c : Code} {s s' : St} (h : CodeHolds P c s .norm s') : CodeHolds P (.block id c) s .norm s' := by
  intro ρ a w Q pre post
  refine wp_block (h ρ a w _ pre (fun ρ' a' w' hr hd hs => ?_))
  have := post ρ' a' w' hr hd hs
  simpa [Exit.inBlock, exOf] using this
theorem code_condT {P : Program} {x : Operand} {c d : Code} {s s2 : St} {e : Ex} (hx : evA s.tmps x = some (.bool true)) (h : CodeHolds P c s e s2) : CodeHolds P (.cond x c d) s e s2 := by
  intro ρ a w Q pre post
  have hr := relS_den (evA_ok pre.glob hx pre.rel) (by simp)
  simp only [den] at hr
  exact wp_cond_true (by simpa using hr.symm) (h ρ a w Q pre post)
theorem code_pre {E : Env} (hE : EnvOk E) {fuel : Nat} {l : List Code} {c : Code} {s s1 s2 : St} {m : List (Nat × Src)} {hints : List Hint} {e : Ex} {ob : List Prop}
    (h : roundB E fuel (seqs l .skip) s.hp m s hints s1 = some (.norm, ob)) (ho : ∀ p ∈ ob, p) (hhi : s.hp.hi = gnm 0) (hc : CodeHolds E.P c s1 e s2) (m1 : Mono s.hp s1.hp) (m2 : Mono s1.hp s2.hp) : CodeHolds E.P (seqs l c) s e s2 := by
  intro ρ a w Q pre post
  obtain ⟨s', hex, hobs, ob', hcs, ho'⟩ := roundB_spec h ho
  obtain ⟨om, o⟩ := seqs_ok hE l fuel _ _ hex
  refine o hobs ρ a w c Q ⟨pre.rel, pre.defers, pre.rep, pre.fresh, pre.glob⟩ (fun ρ2 a2 w2 hr2 hd2 hs2 => ?_)
  have hn1 : s'.hp.nxt ≤ s.hp.hi := castSt_nxt hcs
  have f0 : Fresh ρ s.hp.nxt (gnm 0) := fun n h1 h2 => pre.fresh n h1 (by rw [hhi]; exact h2)
  have st : StepB E.P (gnm 0) ρ s.hp w ρ2 s'.hp w2 := ⟨hs2.le, fun n l h1 h2 => (let q := hs2.new n l h1 h2; ⟨q.1, Nat.lt_of_lt_of_le q.2 (by rw [← hhi]; exact hn1)⟩), hs2.rep, hs2.fr, hs2.own⟩
  obtain ⟨ρ3, q1, q2, q3, q4, q5, q6, q7, _⟩ := castSt_okB st (by rw [hhi]; exact Nat.le_refl _) f0 hcs ho' hr2
  have st3 : Step E.P ρ s.hp w ρ3 s1.hp w2 := ⟨q2.le, fun n l h1 h2 => ⟨(q2.new n l h1 h2).1, by
    rcases q3 n l h1 h2 with h | h
    · exact h
    · have := (q2.new n l h1 h2).2
      rw [hhi] at h; omega⟩, q2.rep, q2.fr, q2.own⟩
  exact hc ρ3 a2 w2 Q (pre.next st3 m1 q1 hd2) (fun ρ4 a4 w4 hr4 hd4 hs4 => post ρ4 a4 w4 hr4 hd4 (st3.trans hs4 m1 m2))
/-- The end seen otherwise. -/
theorem code_cast {P : Program} {c : Code} {s s' t : St} {e : Ex} {m : List (Nat × Src)} {ob : List Prop} (h : CodeHolds P c s e s') (hc : castSt s.hp m s' t = some ob) (ho : ∀ p ∈ ob, p) (hhi : s.hp.hi = gnm 0) : CodeHolds P c s e t := by
  intro ρ a w Q pre post
  refine h ρ a w Q pre (fun ρ2 a2 w2 hr2 hd2 hs2 => ?_)
  have hn1 : s'.hp.nxt ≤ s.hp.hi := castSt_nxt hc
  have f0 : Fresh ρ s.hp.nxt (gnm 0) := fun n h1 h2 => pre.fresh n h1 (by rw [hhi]; exact h2)
  have st : StepB P (gnm 0) ρ s.hp w ρ2 s'.hp w2 := ⟨hs2.le, fun n l h1 h2 => (let q := hs2.new n l h1 h2; ⟨q.1, Nat.lt_of_lt_of_le q.2 (by rw [← hhi]; exact hn1)⟩), hs2.rep, hs2.fr, hs2.own⟩
  obtain ⟨ρ3, q1, q2, q3, q4, q5, q6, q7, _⟩ := castSt_okB st (by rw [hhi]; exact Nat.le_refl _) f0 hc ho hr2
  refine post ρ3 a2 w2 q1 hd2 ⟨q2.le, fun n l h1 h2 => ⟨(q2.new n l h1 h2).1, ?_⟩, q2.rep, q2.fr, q2.own⟩
  rcases q3 n l h1 h2 with h | h
  · exact h
  · have := (q2.new n l h1 h2).2
    rw [hhi] at h; omega
end Go.Ev
