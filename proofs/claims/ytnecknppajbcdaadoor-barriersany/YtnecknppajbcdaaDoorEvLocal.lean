/-
  Contracts over a local heap with names of their own: one contract of a function serves at every call.
-/
import Derived.Test.YtnecknppajbcdaaDoorEvDraw
import Derived.Test.YtnecknppajbcdaaDoorEvMain
import Derived.Test.YtnecknppajbcdaaDoorEvCast
set_option linter.unusedSimpArgs false
set_option linter.unusedVariables false
namespace Go.Ev

/-! ### other names -/
mutual
def renV (f : Nat → Option Nat) : AV → Option AV
  | .top => some .top
  | .int k n => some (.int k n)
  | .sym k n => some (.sym k n)
  | .bool b => some (.bool b)
  | .symb b => some (.symb b)
  | .nilp => some .nilp
  | .ptr b i j => match f b with
    | some b => some (.ptr b i j)
    | none => none
  | .nils => some .nils
  | .xs wd b o l c => match f b with
    | some b => some (.xs wd b o l c)
    | none => none
  | .ss wd b o l c => match f b with
    | some b => some (.ss wd b o l c)
    | none => none
  | .nilm => some .nilm
  | .map b => match f b with
    | some b => some (.map b)
    | none => none
  | .nilf => some .nilf
  | .func g l m => match renL f l, renL f m with
    | some l, some m => some (.func g l m)
    | _, _ => none
  | .nili => some .nili
  | .iface t v => match renV f v with
    | some v => some (.iface t v)
    | none => none
  | .agg l => match renL f l with
    | some l => some (.agg l)
    | none => none
  | .tup l => match renL f l with
    | some l => some (.tup l)
    | none => none
  | .stamp _ => none
  | .raw v => some (.raw v)
def renL (f : Nat → Option Nat) : List AV → Option (List AV)
  | [] => some []
  | v :: r => match renV f v, renL f r with
    | some v, some r => some (v :: r)
    | _, _ => none
end

mutual
theorem renV_den {f : Nat → Option Nat} {ρ ρ' : Ren} (H : ∀ n k, f n = some k → ρ' k = ρ n) : ∀ (v v' : AV), renV f v = some v' → den ρ' v' = den ρ v
  | .top, v', e => by simp [renV] at e; subst e; rfl
  | .int .., v', e => by simp [renV] at e; subst e; simp [den]
  | .sym .., v', e => by simp [renV] at e; subst e; simp [den]
  | .bool .., v', e => by simp [renV] at e; subst e; simp [den]
  | .symb .., v', e => by simp [renV] at e; subst e; simp [den]
  | .nilp, v', e => by simp [renV] at e; subst e; simp [den]
  | .ptr b i j, v', e => by
    simp only [renV] at e
    split at e
    · rename_i k hk; cases e; simp only [den]; rw [H _ _ hk]
    · cases e
  | .nils, v', e => by simp [renV] at e; subst e; simp [den]
  | .xs wd b o l c, v', e => by
    simp only [renV] at e
    split at e
    · rename_i k hk; cases e; simp only [den]; rw [H _ _ hk]
    · cases e
  | .ss wd b o l c, v', e => by
    simp only [renV] at e
    split at e
    · rename_i k hk; cases e; simp only [den]; rw [H _ _ hk]
    · cases e
  | .nilm, v', e => by simp [renV] at e; subst e; simp [den]
  | .map b, v', e => by
    simp only [renV] at e
    split at e
    · rename_i k hk; cases e; simp only [den]; rw [H _ _ hk]
    · cases e
  | .nilf, v', e => by simp [renV] at e; subst e; simp [den]
  | .func g l m, v', e => by
    simp only [renV] at e
    split at e
    · rename_i l1 m1 h1 h2; cases e; simp only [den]; rw [renL_den H l l1 h1, renL_den H m m1 h2]
    · cases e
  | .nili, v', e => by simp [renV] at e; subst e; simp [den]
  | .iface t v, v', e => by
    simp only [renV] at e
    split at e
    · rename_i v1 h1; cases e; simp only [den]; rw [renV_den H v v1 h1]
    · cases e
  | .agg l, v', e => by
    simp only [renV] at e
    split at e
    · rename_i l1 h1; cases e; simp only [den]; rw [renL_den H l l1 h1]
    · cases e
  | .tup l, v', e => by
    simp only [renV] at e
    split at e
    · rename_i l1 h1; cases e; simp only [den]; rw [renL_den H l l1 h1]
    · cases e
  | .stamp n, v', e => by simp [renV] at e
  | .raw v, v', e => by simp [renV] at e; subst e; simp [den]
theorem renL_den {f : Nat → Option Nat} {ρ ρ' : Ren} (H : ∀ n k, f n = some k → ρ' k = ρ n) : ∀ (v v' : List AV), renL f v = some v' → denL ρ' v' = denL ρ v
  | [], v', e => by simp [renL] at e; subst e; simp [denL]
  | v :: r, v', e => by
    simp only [renL] at e
    split at e
    · rename_i v1 r1 h1 h2; cases e; simp only [denL]; rw [renV_den H v v1 h1, renL_den H r r1 h2]
    · cases e
end

theorem renV_rel {f : Nat → Option Nat} {ρ ρ' : Ren} (H : ∀ n k, f n = some k → ρ' k = ρ n) {v v' : AV} (e : renV f v = some v') {x : Value} (h : relS ρ v x) : relS ρ' v' x := by
  rcases h with rfl | h
  · simp [renV] at e; exact .inl e.symm
  · exact .inr (by rw [renV_den H v v' e]; exact h)

theorem renL_get {f : Nat → Option Nat} : ∀ (l l' : List AV), renL f l = some l' → l'.length = l.length ∧ ∀ (j : Nat) v', l'[j]? = some v' → ∃ v, l[j]? = some v ∧ renV f v = some v'
  | [], l', e => by simp [renL] at e; subst e; simp
  | v :: r, l', e => by
    simp only [renL] at e
    split at e
    · rename_i v1 r1 h1 h2
      cases e
      obtain ⟨q1, q2⟩ := renL_get r r1 h2
      refine ⟨by simp [q1], fun j u hj => ?_⟩
      cases j with
      | zero => simp at hj; subst hj; exact ⟨v, rfl, h1⟩
      | succ j => exact q2 j u (by simpa using hj)
    · cases e

def renO (f : Nat → Option Nat) : AO → Option AO
  | .cells wd l => match renL f l with
    | some l => some (.cells wd l)
    | none => none
  | .arr wd sh ro len g => match plainSh sh with
    | true => some (.arr wd sh ro len g)
    | false => none
  | .map t m => some (.map t m)
  | .mapP .. => none

theorem renO_rep {P : Program} {f : Nat → Option Nat} {ρ ρ' : Ren} {w : World} {l : Loc} (H : ∀ n k, f n = some k → ρ' k = ρ n) {o o' : AO} (e : renO f o = some o') (h : ObjRep P ρ w l o) : ObjRep P ρ' w l o' ∧ o'.ro = o.ro := by
  cases o with
  | cells wd cs =>
    simp only [renO] at e
    split at e
    · rename_i l1 h1
      cases e
      obtain ⟨h0, h1', h2, c, t, fr, hb, hf, hc, hc2, hv⟩ := h
      obtain ⟨q1, q2⟩ := renL_get cs l1 h1
      refine ⟨⟨h0, h1', h2, c, t, fr, hb, hf, by omega, hc2, fun j v hj => ?_⟩, rfl⟩
      obtain ⟨u, hu, hr⟩ := q2 j v hj
      obtain ⟨x, hx, hrx⟩ := hv j u hu
      exact ⟨x, hx, renV_rel H hr hrx⟩
    · cases e
  | arr wd sh ro len g =>
    simp only [renO] at e
    split at e
    · rename_i hp
      cases e
      obtain ⟨h1, h2, h3, h4, h5⟩ := h
      refine ⟨⟨h1, h2, h3, h4, fun hc => ?_⟩, rfl⟩
      obtain ⟨c, t, fr, hb, hf, hc2, hv⟩ := h5 hc
      refine ⟨c, t, fr, hb, hf, hc2, fun i hi j k hj => ?_⟩
      obtain ⟨kk, x, hx, hd⟩ := hv i hi j k hj
      refine ⟨kk, x, hx, ?_⟩
      rcases plainSh_get sh hp j k hj with ⟨q, rfl⟩ | rfl
      · obtain ⟨n, hn | hn⟩ := kk <;> rw [hn] at hd ⊢ <;> simpa [den] using hd
      · obtain ⟨n, hn | hn⟩ := kk <;> rw [hn] at hd ⊢ <;> simpa [den] using hd
    · cases e
  | map t m =>
    simp only [renO] at e
    cases e
    exact ⟨h, rfl⟩
  | mapP t m n k => simp [renO] at e


/-! ### local names -/
/-- What a contract says over a local heap of k blocks: the answer, the heap behind it, how many new blocks, which were written. -/
structure LR where
  k : Nat
  v : AV
  heap : List (Nat × AO)
  n : Nat
  wr : List Nat
  ob : List Prop

def idxOf : List Nat → Nat → Nat → Option Nat
  | [], _, _ => none
  | b :: r, k, n => match Nat.beq b n with
    | true => some k
    | false => idxOf r (k + 1) n

def toLoc (r : List Nat) (n : Nat) : Option Nat := match Nat.ble (gnm 0) n with
  | true => some n
  | false => idxOf r 1 n

def toOut (r : List Nat) (nxt k : Nat) (l : Nat) : Option Nat := match Nat.ble (gnm 0) l with
  | true => some l
  | false => match l with
    | 0 => none
    | l + 1 => match nth r l with
      | some b => some b
      | none => match Nat.blt (l - r.length) k with
        | true => some (nxt + (l - r.length))
        | false => none

def notGlob : List Nat → List Nat
  | [] => []
  | n :: r => match Nat.ble (gnm 0) n with
    | true => notGlob r
    | false => n :: notGlob r

def revN : List Nat → List Nat → List Nat
  | [], l => l
  | n :: r, l => revN r (n :: l)

def locHeap (f : Nat → Option Nat) (heap : List (Nat × AO)) : List Nat → Option (List (Nat × AO))
  | [] => some []
  | b :: l => match f b, get heap b with
    | some k, some o => match renO f o, locHeap f heap l with
      | some o, some t => some ((k, o) :: t)
      | _, _ => none
    | _, _ => none

def outHeap (g : Nat → Option Nat) (res heap : List (Nat × AO)) : Nat → Option (List (Nat × AO))
  | 0 => some heap
  | l + 1 => match outHeap g res heap l, g (l + 1) with
    | some hp, some b => match get res (l + 1) with
      | some o => match renO g o with
        | some o => some (set hp b o)
        | none => none
      | none => some (del hp b)
    | _, _ => none

def outNames (g : Nat → Option Nat) : List Nat → Option (List Nat)
  | [] => some []
  | l :: r => match Nat.ble (gnm 0) l, g l, outNames g r with
    | false, some b, some t => some (b :: t)
    | _, _, _ => none

def nodupB : List Nat → Bool
  | [] => true
  | n :: r => match mem n r with
    | true => false
    | false => nodupB r

/-- The names of package-level variables that a heap tells of, behind others. -/
def addGlobs : List (Nat × AO) → List Nat → List Nat
  | [], l => l
  | (n, _) :: r, l => match Nat.ble (gnm 0) n with
    | true => addGlobs r (add n l)
    | false => addGlobs r l

def applyLocN (spec : List AV → List (Nat × AO) → Option LR) (args : List AV) (h : Hp) (names : List Nat) : Option (AV × Hp) :=
  match revN (reach h.heap 10000 names []) [] with
  | r0 => match notGlob r0 with
    | r => match renL (toLoc r) args, locHeap (toLoc r) h.heap r0, Nat.ble h.hi (gnm 0), nodupB r with
      | some la, some lh, true, true => match spec la lh with
        | some R => match Nat.beq R.k r.length && Nat.ble (r.length + 1 + R.n) (gnm 0), Nat.ble (h.nxt + R.n) h.hi, outHeap (toOut r h.nxt R.n) R.heap h.heap (r.length + R.n), outNames (toOut r h.nxt R.n) R.wr, renV (toOut r h.nxt R.n) R.v with
          | true, true, some hp, some wr, some v => some (v, ⟨hp, h.nxt + R.n, h.hi, h.hints, R.ob ++ h.ob, addAll wr h.wr, h.auto⟩)
          | _, _, _, _, _ => none
        | none => none
      | _, _, _, _ => none

/-- A contract of what the arguments reach; where it does not fit, of that and of the package-level variables that are known. -/
def applyLoc (spec : List AV → List (Nat × AO) → Option LR) (args : List AV) (h : Hp) : Option (AV × Hp) := match applyLocN spec args h (namesL args) with
  | some x => some x
  | none => match addGlobs h.heap [] with
    | [] => none
    | _ => applyLocN spec args h (addGlobs h.heap (namesL args))

def LocOk (P : Program) (f : FuncId) (la : List AV) (lh : List (Nat × AO)) (R : LR) : Prop :=
  ∀ ρ w, (∀ p ∈ R.ob, p) → HeapRep P ρ lh w → Fresh ρ (R.k + 1) (gnm 0) → GOk ρ → ∀ xs, denL ρ la = some xs →
    Calls P f xs.toArray w fun e w' => ∃ x ρ', e = .returned x ∧ relS ρ' R.v x ∧ Step P ρ ⟨lh, R.k + 1, gnm 0, [], [], [], false⟩ w ρ' ⟨R.heap, R.k + 1 + R.n, gnm 0, [], [], R.wr, false⟩ w'

theorem idxOf_get : ∀ (r : List Nat) (k n i : Nat), idxOf r k n = some i → k ≤ i ∧ r[i - k]? = some n
  | [], k, n, i, h => by simp [idxOf] at h
  | b :: r, k, n, i, h => by
    simp only [idxOf] at h
    split at h
    · rename_i hb; cases h
      have := Nat.eq_of_beq_eq_true hb; subst this
      simp
    · obtain ⟨h1, h2⟩ := idxOf_get r (k + 1) n i h
      refine ⟨by omega, ?_⟩
      rw [show i - k = (i - (k + 1)) + 1 by omega]
      simpa using h2

theorem idxOf_mem : ∀ (r : List Nat) (k n : Nat), n ∈ r → ∃ i, idxOf r k n = some i
  | [], k, n, h => by cases h
  | b :: r, k, n, h => by
    simp only [idxOf]
    split
    · exact ⟨_, rfl⟩
    · rename_i hb
      rcases List.mem_cons.1 h with rfl | h
      · simp at hb
      · exact idxOf_mem r (k + 1) n h

theorem notGlob_mem : ∀ (l : List Nat) (n : Nat), n ∈ notGlob l ↔ n ∈ l ∧ n < gnm 0
  | [], n => by simp [notGlob]
  | m :: r, n => by
    simp only [notGlob]
    split
    · rename_i h
      have h : gnm 0 ≤ m := Nat.le_of_ble_eq_true h
      rw [notGlob_mem r n]
      constructor
      · exact fun ⟨a, b⟩ => ⟨List.mem_cons_of_mem _ a, b⟩
      · rintro ⟨a, b⟩
        rcases List.mem_cons.1 a with rfl | a
        · omega
        · exact ⟨a, b⟩
    · rename_i h
      have h : ¬ gnm 0 ≤ m := fun e => by rw [Nat.ble_eq_true_of_le e] at h; cases h
      simp only [List.mem_cons]
      rw [notGlob_mem r n]
      constructor
      · rintro (rfl | ⟨a, b⟩)
        · exact ⟨.inl rfl, by omega⟩
        · exact ⟨.inr a, b⟩
      · rintro ⟨rfl | a, b⟩
        · exact .inl rfl
        · exact .inr ⟨a, b⟩

theorem nodupB_nd : ∀ (l : List Nat), nodupB l = true → l.Nodup
  | [], _ => List.nodup_nil
  | n :: r, h => by
    simp only [nodupB] at h
    split at h
    · cases h
    · rename_i hm
      exact List.nodup_cons.2 ⟨fun e => (by rw [(mem_iff n r).2 e] at hm; cases hm), nodupB_nd r h⟩

theorem locHeap_get {f : Nat → Option Nat} {heap : List (Nat × AO)} : ∀ (l : List Nat) (t : List (Nat × AO)), locHeap f heap l = some t →
    (∀ b ∈ l, ∃ k o o', f b = some k ∧ get heap b = some o ∧ renO f o = some o') ∧ ∀ k o', get t k = some o' → ∃ b ∈ l, ∃ o, f b = some k ∧ get heap b = some o ∧ renO f o = some o'
  | [], t, h => by simp [locHeap] at h; subst h; exact ⟨fun b hb => by simp at hb, fun k o' h => by simp [get] at h⟩
  | b :: l, t, h => by
    simp only [locHeap] at h
    split at h
    · rename_i k o hk ho
      split at h
      · rename_i o' t' hr ht
        cases h
        obtain ⟨q1, q2⟩ := locHeap_get l t' ht
        refine ⟨fun c hc => ?_, fun j o2 hj => ?_⟩
        · rcases List.mem_cons.1 hc with rfl | hc
          · exact ⟨k, o, o', hk, ho, hr⟩
          · exact q1 c hc
        · simp only [get] at hj
          split at hj
          · rename_i hb; cases hj
            have hb := Nat.eq_of_beq_eq_true hb; subst hb
            exact ⟨b, by simp, o, hk, ho, hr⟩
          · obtain ⟨c, hc, r⟩ := q2 j o2 hj
            exact ⟨c, List.mem_cons_of_mem _ hc, r⟩
      · cases h
    · cases h

/-- A heap behind a local call: what stands at a name. -/
theorem outHeap_get {g : Nat → Option Nat} {res heap : List (Nat × AO)} : ∀ (m : Nat) (hp : List (Nat × AO)), outHeap g res heap m = some hp → (∀ i j b, i ≤ m → j ≤ m → 1 ≤ i → 1 ≤ j → g i = some b → g j = some b → i = j) →
    (∀ l, 1 ≤ l → l ≤ m → ∃ b, g l = some b ∧ (∀ o, get hp b = some o → ∃ o', get res l = some o' ∧ renO g o' = some o)) ∧ ∀ b, (∀ l, 1 ≤ l → l ≤ m → g l ≠ some b) → get hp b = get heap b
  | 0, hp, h, _ => by simp [outHeap] at h; subst h; exact ⟨fun l h1 h2 => by omega, fun b _ => rfl⟩
  | m + 1, hp, h, inj => by
    simp only [outHeap] at h
    split at h
    · rename_i hp0 b h0 hb
      obtain ⟨q1, q2⟩ := outHeap_get m hp0 h0 (fun i j c hi hj => inj i j c (by omega) (by omega))
      have other : ∀ c, c ≠ b → get hp c = get hp0 c := by
        intro c hc
        split at h
        · split at h
          · cases h; rw [get_set, if_neg hc]
          · cases h
        · cases h; rw [get_del, if_neg hc]
      refine ⟨fun l h1 h2 => ?_, fun c hc => ?_⟩
      · by_cases hl : l = m + 1
        · subst hl
          refine ⟨b, hb, fun o ho => ?_⟩
          split at h
          · rename_i o' ho'
            split at h
            · rename_i o2 hr
              cases h
              rw [get_set, if_pos rfl] at ho
              cases ho
              exact ⟨o', ho', hr⟩
            · cases h
          · cases h
            rw [get_del, if_pos rfl] at ho; cases ho
        · obtain ⟨c, hc, r⟩ := q1 l h1 (by omega)
          refine ⟨c, hc, fun o ho => r o ?_⟩
          have : c ≠ b := fun e => by
            subst e
            exact hl (inj l (m + 1) c (by omega) (by omega) h1 (by omega) hc hb)
          rw [← other c this]; exact ho
      · have hcb : c ≠ b := fun e => by subst e; exact hc (m + 1) (by omega) (by omega) hb
        rw [other c hcb]
        exact q2 c (fun l h1 h2 => hc l h1 (by omega))
    · cases h

theorem outNames_get {g : Nat → Option Nat} : ∀ (l t : List Nat), outNames g l = some t → ∀ n ∈ l, n < gnm 0 ∧ ∃ b, g n = some b ∧ b ∈ t
  | [], t, h, n, hn => by cases hn
  | m :: r, t, h, n, hn => by
    simp only [outNames] at h
    split at h
    · rename_i b t' hm hb ht
      cases h
      rcases List.mem_cons.1 hn with rfl | hn
      · have hlt : n < gnm 0 := by
          rcases Nat.lt_or_ge n (gnm 0) with h | h
          · exact h
          · rw [Nat.ble_eq_true_of_le h] at hm; cases hm
        exact ⟨hlt, b, hb, by simp⟩
      · obtain ⟨q1, c, q2, q3⟩ := outNames_get r t' ht n hn
        exact ⟨q1, c, q2, List.mem_cons_of_mem _ q3⟩
    · cases h


theorem toLoc_spec {r : List Nat} {n k : Nat} (h : toLoc r n = some k) : (gnm 0 ≤ n ∧ k = n) ∨ (n < gnm 0 ∧ 1 ≤ k ∧ r[k - 1]? = some n) := by
  unfold toLoc at h
  split at h
  · rename_i hb; cases h; exact .inl ⟨Nat.le_of_ble_eq_true hb, rfl⟩
  · rename_i hb
    obtain ⟨h1, h2⟩ := idxOf_get r 1 n k h
    refine .inr ⟨?_, h1, h2⟩
    rcases Nat.lt_or_ge n (gnm 0) with h | h
    · exact h
    · rw [Nat.ble_eq_true_of_le h] at hb; cases hb

theorem toOut_spec {r : List Nat} {nxt k l b : Nat} (h : toOut r nxt k l = some b) : (gnm 0 ≤ l ∧ b = l) ∨ (l < gnm 0 ∧ ∃ m, l = m + 1 ∧ (r[m]? = some b ∨ (r.length ≤ m ∧ m - r.length < k ∧ b = nxt + (m - r.length)))) := by
  unfold toOut at h
  split at h
  · rename_i hb; cases h; exact .inl ⟨Nat.le_of_ble_eq_true hb, rfl⟩
  · rename_i hb
    have hlt : l < gnm 0 := by
      rcases Nat.lt_or_ge l (gnm 0) with h | h
      · exact h
      · rw [Nat.ble_eq_true_of_le h] at hb; cases hb
    refine .inr ⟨hlt, ?_⟩
    split at h
    · cases h
    · rename_i m
      refine ⟨m, rfl, ?_⟩
      split at h
      · rename_i c hc; cases h; rw [nth_eq] at hc; exact .inl hc
      · rename_i hc
        rw [nth_eq] at hc
        split at h
        · rename_i hk; cases h
          exact .inr ⟨by simpa using hc, by simpa [Nat.blt_eq] using hk, rfl⟩
        · cases h

theorem toOut_old {r : List Nat} {nxt k m b : Nat} (hm : 1 ≤ m) (hlt : m < gnm 0) (h : r[m - 1]? = some b) : toOut r nxt k m = some b := by
  unfold toOut
  have hb : Nat.ble (gnm 0) m = false := by
    cases e : Nat.ble (gnm 0) m with
    | false => rfl
    | true => have := Nat.le_of_ble_eq_true e; omega
  rw [hb]
  cases m with
  | zero => omega
  | succ m => simp only [nth_eq]; simp at h; rw [h]

theorem applyLocN_ok {P : Program} {f : FuncId} {spec : List AV → List (Nat × AO) → Option LR} (H : ∀ la lh R, spec la lh = some R → LocOk P f la lh R) {args : List AV} {h h' : Hp} {v : AV} {names : List Nat} (e : applyLocN spec args h names = some (v, h')) : CaOk P f args h v h' := by
  unfold applyLocN at e
  generalize hr0 : revN (reach h.heap 10000 names []) [] = r0 at e
  simp only at e
  generalize hrr : notGlob r0 = r at e
  split at e
  case h_2 => cases e
  rename_i la lh hla hlh hhi hnd
  split at e
  case h_2 => cases e
  rename_i R hR
  split at e
  case h_2 => cases e
  rename_i hp wr vo hk hnx hout hwr hvo
  cases e
  have hhi : h.hi ≤ gnm 0 := Nat.le_of_ble_eq_true hhi
  have hnd := nodupB_nd r hnd
  simp only [Bool.and_eq_true] at hk
  have hk1 := Nat.eq_of_beq_eq_true hk.1
  have hk2 : r.length + 1 + R.n ≤ gnm 0 := Nat.le_of_ble_eq_true hk.2
  have hnx : h.nxt + R.n ≤ h.hi := Nat.le_of_ble_eq_true hnx
  refine ⟨⟨fun p hp => List.mem_append_right _ hp, by simp, rfl, fun n hn => mem_addAll.2 (.inr hn)⟩, fun ho ρ w hr hf hg xs hx => ?_⟩
  let ρl : Ren := fun l => if gnm 0 ≤ l then ρ l else match l with
    | 0 => none
    | m + 1 => match r[m]? with
      | some b => ρ b
      | none => none
  have hρg : ∀ l, gnm 0 ≤ l → ρl l = ρ l := fun l hl => by simp [ρl, hl]
  have hρi : ∀ m b, m + 1 < gnm 0 → r[m]? = some b → ρl (m + 1) = ρ b := fun m b hm hb => by
    have : ¬ gnm 0 ≤ m + 1 := by omega
    simp [ρl, this, hb]
  have hrl : ∀ m b, r[m]? = some b → m < r.length := fun m b hb => (List.getElem?_eq_some_iff.1 hb).1
  have H1 : ∀ n k, toLoc r n = some k → ρl k = ρ n := by
    intro n k hn
    rcases toLoc_spec hn with ⟨a, rfl⟩ | ⟨a, b, c⟩
    · exact hρg _ a
    · have := hrl _ _ c
      have := hρi (k - 1) n (by omega) c
      rw [← this]; congr 1; omega
  obtain ⟨g1, g2⟩ := locHeap_get r0 lh hlh
  have hrep : HeapRep P ρl lh w := by
    refine ⟨fun k o' hk => ?_, fun k k2 o o2 l l2 ha hb hne hro hl hl2 hc hc2 => ?_⟩
    · obtain ⟨b, hb, o, q1, q2, q3⟩ := g2 k o' hk
      obtain ⟨l, hl, hob⟩ := hr.1 b o q2
      exact ⟨l, (H1 b k q1).trans hl, (renO_rep H1 q3 hob).1⟩
    · obtain ⟨b, hbm, p, q1, q2, q3⟩ := g2 k o ha
      obtain ⟨b', hbm', p', q1', q2', q3'⟩ := g2 k2 o2 hb
      obtain ⟨x1, hx1, hob1⟩ := hr.1 b p q2
      obtain ⟨x2, hx2, hob2⟩ := hr.1 b' p' q2'
      have e1 := (renO_rep H1 q3 hob1).2
      have e2 := (renO_rep H1 q3' hob2).2
      have hbb : b ≠ b' := fun x => by subst x; rw [q1] at q1'; cases q1'; exact hne rfl
      rw [H1 b k q1] at hl
      rw [H1 b' k2 q1'] at hl2
      exact hr.2 b b' p p' l l2 q2 q2' hbb (by rw [← e1, ← e2]; exact hro) hl hl2 hc hc2
  have hfr : Fresh ρl (R.k + 1) (gnm 0) := by
    intro n h1 h2
    have : ¬ gnm 0 ≤ n := by omega
    cases n with
    | zero => omega
    | succ m =>
      have hm : r[m]? = none := by simp; omega
      simp [ρl, this, hm]
  have hgl : GOk ρl := fun g => by
    obtain ⟨l, hl, q⟩ := hg g
    exact ⟨l, (hρg _ (by unfold gnm; omega)).trans hl, q⟩
  have := H la lh R hR ρl w (fun p hp => ho p (List.mem_append_left _ hp)) hrep hfr hgl xs ((renL_den H1 args la hla).trans hx)
  refine this.mono fun ee w' ⟨x, ρl', he, hxv, st⟩ => ?_
  let ρ' : Ren := fun m => if h.nxt ≤ m ∧ m < h.nxt + R.n then ρl' (r.length + 1 + (m - h.nxt)) else ρ m
  have hsome : ∀ b l, ρ b = some l → ¬ (h.nxt ≤ b ∧ b < h.nxt + R.n) := fun b l hb hn => by
    have := hf b hn.1 (by omega); rw [this] at hb; cases hb
  have hle : Le ρ ρ' := fun n l hn => by simp only [ρ']; rw [if_neg (hsome n l hn)]; exact hn
  have hin : ∀ b ∈ r, ∃ o l, get h.heap b = some o ∧ ρ b = some l := fun b hb => by
    rw [← hrr] at hb
    obtain ⟨k, o, o', _, q2, _⟩ := g1 b ((notGlob_mem r0 b).1 hb).1
    obtain ⟨l, hl⟩ := hr.loc q2
    exact ⟨o, l, q2, hl⟩
  have H2 : ∀ l b, toOut r h.nxt R.n l = some b → ρ' b = ρl' l := by
    intro l b hb
    rcases toOut_spec hb with ⟨a, rfl⟩ | ⟨a, m, rfl, hm | ⟨m1, m2, rfl⟩⟩
    · obtain ⟨L, hL, _⟩ := hg (b - gnm 0)
      have eb : gnm (b - gnm 0) = b := by unfold gnm at a ⊢; omega
      rw [eb] at hL
      rw [hle b L hL, st.le b L ((hρg b a).trans hL)]
    · obtain ⟨o, L, _, hL⟩ := hin b (List.mem_of_getElem? hm)
      rw [hle b L hL, st.le (m + 1) L ((hρi m b a hm).trans hL)]
    · simp only [ρ']
      rw [if_pos (by omega)]
      congr 1; omega
  have inj : ∀ i j b, i ≤ r.length + R.n → j ≤ r.length + R.n → 1 ≤ i → 1 ≤ j → toOut r h.nxt R.n i = some b → toOut r h.nxt R.n j = some b → i = j := by
    intro i j b hi hj hi1 hj1 e1 e2
    rcases toOut_spec e1 with ⟨a, _⟩ | ⟨_, m, rfl, hm⟩
    · omega
    rcases toOut_spec e2 with ⟨a, _⟩ | ⟨_, m', rfl, hm'⟩
    · omega
    rcases hm with hm | ⟨m1, m2, rfl⟩
    · rcases hm' with hm' | ⟨m1', m2', rfl⟩
      · obtain ⟨ha, ha'⟩ := List.getElem?_eq_some_iff.1 hm
        obtain ⟨hb, hb'⟩ := List.getElem?_eq_some_iff.1 hm'
        have := (List.getElem_inj hnd).1 (ha'.trans hb'.symm)
        omega
      · obtain ⟨o, L, _, hL⟩ := hin _ (List.mem_of_getElem? hm)
        exact (hsome _ L hL (by omega)).elim
    · rcases hm' with hm' | ⟨m1', m2', e3⟩
      · obtain ⟨o, L, _, hL⟩ := hin _ (List.mem_of_getElem? hm')
        exact (hsome _ L hL (by omega)).elim
      · omega
  obtain ⟨k1, k2⟩ := outHeap_get _ hp hout inj
  -- what a local name with an object stands for
  have loc : ∀ m o1, get lh m = some o1 → m < gnm 0 → ∃ b o2, toOut r h.nxt R.n m = some b ∧ 1 ≤ m ∧ m ≤ r.length ∧ get h.heap b = some o2 ∧ o1.ro = o2.ro ∧ ρl m = ρ b := by
    intro m o1 hm hlt
    obtain ⟨b, hb, o2, q1, q2, q3⟩ := g2 m o1 hm
    obtain ⟨L, hL, hob⟩ := hr.1 b o2 q2
    rcases toLoc_spec q1 with ⟨a, rfl⟩ | ⟨a, c, d⟩
    · omega
    · exact ⟨b, o2, toOut_old c hlt d, c, by have := hrl _ _ d; omega, q2, (renO_rep H1 q3 hob).2, H1 b m q1⟩
  have wrin : ∀ m ∈ R.wr, m < gnm 0 ∧ ∃ b, toOut r h.nxt R.n m = some b ∧ b ∈ wr := outNames_get _ _ hwr
  have stay : ∀ b o L, (∀ l, 1 ≤ l → l ≤ r.length + R.n → toOut r h.nxt R.n l ≠ some b) → get h.heap b = some o → ρ b = some L → L.cap ≠ 0 → w'.heap[L.blk]? = w.heap[L.blk]? := by
    intro b o L hb hgb hL hc
    obtain ⟨L', hL', hob⟩ := hr.1 b o hgb
    rw [hL] at hL'; cases hL'
    refine st.fr.same L.blk (hob.lt hc) ?_
    rintro ⟨m, hm, o1, L1, y1, y2, y3, y4, y5⟩
    obtain ⟨hlt, _⟩ := wrin m hm
    obtain ⟨b1, o2, z1, z2, z3, z4, z5, z6⟩ := loc m o1 y1 hlt
    have hne : b1 ≠ b := fun x => by subst x; exact hb m z2 (by omega) z1
    rw [z6] at y3
    exact hr.2 b1 b o2 o L1 L z4 hgb hne (by rw [← z5, y2]; rfl) y3 hL y4 hc y5
  have apart : ∀ l o' L1 b2 o2 L2, 1 ≤ l → l ≤ r.length + R.n → get R.heap l = some o' → ρl' l = some L1 → L1.cap ≠ 0 → (∀ l, 1 ≤ l → l ≤ r.length + R.n → toOut r h.nxt R.n l ≠ some b2) → get h.heap b2 = some o2 → ρ b2 = some L2 → L2.cap ≠ 0 →
      (o'.ro && o2.ro) = false → L1.blk ≠ L2.blk := by
    intro l o' L1 b2 o2 L2 hl1 hl2 hgl hL1 hc1 hb2 hg2 hL2 hc2 hro heq
    obtain ⟨L', hL', hob⟩ := hr.1 b2 o2 hg2
    rw [hL2] at hL'; cases hL'
    have hlt := hob.lt hc2
    obtain ⟨m, o3, L3, y1, y2, y3, y4, y5, y6⟩ := st.own l o' L1 hgl hL1 hc1 (by rw [heq]; exact hlt)
    have hm : m < gnm 0 := by
      rcases y6 with rfl | y6
      · omega
      · exact (wrin m y6).1
    obtain ⟨b1, o4, z1, z2, z3, z4, z5, z6⟩ := loc m o3 y1 hm
    have hne : b1 ≠ b2 := fun x => by subst x; exact hb2 m z2 (by omega) z1
    rw [z6] at y3
    exact hr.2 b1 b2 o4 o2 L3 L2 z4 hg2 hne (by rw [← z5, y2]; exact hro) y3 hL2 y4 hc2 (y5.trans heq)
  have kind : ∀ b o, get hp b = some o → (∃ l o' , 1 ≤ l ∧ l ≤ r.length + R.n ∧ toOut r h.nxt R.n l = some b ∧ get R.heap l = some o' ∧ renO (toOut r h.nxt R.n) o' = some o ∧ ∃ L, ρl' l = some L ∧ ObjRep P ρ' w' L o ∧ o.ro = o'.ro) ∨
      ((∀ l, 1 ≤ l → l ≤ r.length + R.n → toOut r h.nxt R.n l ≠ some b) ∧ get h.heap b = some o) := by
    intro b o hb
    by_cases hex : ∃ l, 1 ≤ l ∧ l ≤ r.length + R.n ∧ toOut r h.nxt R.n l = some b
    · obtain ⟨l, h1, h2, h3⟩ := hex
      obtain ⟨c, hc, q⟩ := k1 l h1 h2
      rw [h3] at hc; cases hc
      obtain ⟨o', q1, q2⟩ := q o hb
      obtain ⟨L, hL, hob⟩ := st.rep.1 l o' q1
      obtain ⟨z1, z2⟩ := renO_rep H2 q2 hob
      exact .inl ⟨l, o', h1, h2, h3, q1, q2, L, hL, z1, z2⟩
    · have hno : ∀ l, 1 ≤ l → l ≤ r.length + R.n → toOut r h.nxt R.n l ≠ some b := fun l h1 h2 h3 => hex ⟨l, h1, h2, h3⟩
      exact .inr ⟨hno, (k2 b hno) ▸ hb⟩
  refine ⟨x, ρ', he, renV_rel H2 hvo hxv, hle, fun n l h1 h2 => ?_, ⟨fun b o hb => ?_, fun b c o1 o2 L1 L2 hb hc hne hro hL1 hL2 hc1 hc2 => ?_⟩, ⟨st.fr.size, fun b hb hn => st.fr.same b hb ?_, st.fr.tape, st.fr.os, st.fr.output⟩, fun b o L hb hL hc hlt => ?_⟩
  · simp only [ρ'] at h2
    split at h2
    · rename_i hh; exact hh
    · rw [h1] at h2; cases h2
  · rcases kind b o hb with ⟨l, o', a1, a2, a3, a4, a5, L, a6, a7, _⟩ | ⟨a1, a2⟩
    · exact ⟨L, (H2 l b a3).trans a6, a7⟩
    · obtain ⟨L, hL, hob⟩ := hr.1 b o a2
      exact ⟨L, hle b L hL, hob.keep hle (fun hc => stay b o L a1 a2 hL hc)⟩
  · rcases kind b o1 hb with ⟨l, o', a1, a2, a3, a4, a5, L, a6, a7, a8⟩ | ⟨a1, a2⟩
    · rw [H2 l b a3, a6] at hL1; cases hL1
      rcases kind c o2 hc with ⟨l', o'', b1, b2, b3, b4, b5, L', b6, b7, b8⟩ | ⟨b1, b2⟩
      · rw [H2 l' c b3, b6] at hL2; cases hL2
        have hll : l ≠ l' := fun x => by subst x; rw [a3] at b3; cases b3; exact hne rfl
        exact st.rep.2 l l' o' o'' _ _ a4 b4 hll (by rw [← a8, ← b8]; exact hro) a6 b6 hc1 hc2
      · obtain ⟨L', hL', _⟩ := hr.1 c o2 b2
        rw [hle c L' hL'] at hL2; cases hL2
        exact apart l o' _ c o2 _ a1 a2 a4 a6 hc1 b1 b2 hL' hc2 (by rw [← a8]; exact hro)
    · obtain ⟨L, hL, _⟩ := hr.1 b o1 a2
      rw [hle b L hL] at hL1; cases hL1
      rcases kind c o2 hc with ⟨l', o'', b1, b2, b3, b4, b5, L', b6, b7, b8⟩ | ⟨b1, b2⟩
      · rw [H2 l' c b3, b6] at hL2; cases hL2
        exact (apart l' o'' _ b o1 _ b1 b2 b4 b6 hc2 a1 a2 hL hc1 (by rw [← b8, Bool.and_comm]; exact hro)).symm
      · obtain ⟨L', hL', _⟩ := hr.1 c o2 b2
        rw [hle c L' hL'] at hL2; cases hL2
        exact hr.2 b c o1 o2 _ _ a2 b2 hne hro hL hL' hc1 hc2
  · rintro ⟨m, hm, o1, L1, y1, y2, y3, y4, y5⟩
    obtain ⟨hlt, c, hc, hcw⟩ := wrin m hm
    obtain ⟨b1, o2, z1, z2, z3, z4, z5, z6⟩ := loc m o1 y1 hlt
    rw [hc] at z1; cases z1
    rw [z6] at y3
    exact hn ⟨c, mem_addAll.2 (.inl hcw), o2, L1, z4, z5.symm.trans y2, y3, y4, y5⟩
  · rcases kind b o hb with ⟨l, o', a1, a2, a3, a4, a5, L', a6, a7, a8⟩ | ⟨a1, a2⟩
    · rw [H2 l b a3, a6] at hL; cases hL
      obtain ⟨m, o3, L3, y1, y2, y3, y4, y5, y6⟩ := st.own l o' _ a4 a6 hc hlt
      have hm : m < gnm 0 := by
        rcases y6 with rfl | y6
        · omega
        · exact (wrin m y6).1
      obtain ⟨b1, o4, z1, z2, z3, z4, z5, z6⟩ := loc m o3 y1 hm
      rw [z6] at y3
      refine ⟨b1, o4, L3, z4, (z5.symm.trans y2).trans a8.symm, y3, y4, y5, ?_⟩
      rcases y6 with rfl | y6
      · rw [a3] at z1; cases z1; exact .inl rfl
      · obtain ⟨_, c, hc', hcw⟩ := wrin m y6
        rw [hc'] at z1; cases z1
        exact .inr (mem_addAll.2 (.inl hcw))
    · obtain ⟨L', hL', _⟩ := hr.1 b o a2
      rw [hle b L' hL'] at hL; cases hL
      exact ⟨b, o, _, a2, rfl, hL', hc, rfl, .inl rfl⟩

theorem applyLoc_ok {P : Program} {f : FuncId} {spec : List AV → List (Nat × AO) → Option LR} (H : ∀ la lh R, spec la lh = some R → LocOk P f la lh R) {args : List AV} {h h' : Hp} {v : AV} (e : applyLoc spec args h = some (v, h')) : CaOk P f args h v h' := by
  unfold applyLoc at e
  split at e
  · rename_i x hx
    cases e
    exact applyLocN_ok H hx
  · split at e
    · cases e
    · exact applyLocN_ok H e
end Go.Ev
