/-
  EvWords and what follows it.
-/
import Derived.Test.YtmlfmmnnbdlabaaDoorEvLoc2
/-
  The words of a memory, in order: plain definitions and facts.
-/
set_option linter.unusedSimpArgs false
set_option linter.unusedVariables false
namespace Go.Ev

abbrev K3 := Int × Int × Int
/-- Does a key stand ahead of another one? -/
def ltK (x y : K3) : Prop := x.1 < y.1 ∨ x.1 = y.1 ∧ (x.2.1 < y.2.1 ∨ x.2.1 = y.2.1 ∧ x.2.2 < y.2.2)
theorem ltK_irrefl (x : K3) : ¬ ltK x x := by unfold ltK; omega
theorem ltK_trans {x y z : K3} (h1 : ltK x y) (h2 : ltK y z) : ltK x z := by unfold ltK at *; omega
theorem ltK_total {x y : K3} (h1 : ¬ ltK x y) (h2 : ¬ ltK y x) : x = y := by
  unfold ltK at h1 h2
  exact Prod.ext (by omega) (Prod.ext (by omega) (by omega))

/-- A list is the words of f, in order. -/
structure IsWl (f : List Int → Option Int) (l : List (K3 × Int)) : Prop where
  sorted : l.Pairwise (fun x y => ltK x.1 y.1)
  mem : ∀ k v, (k, v) ∈ l ↔ mget f (key k.1 k.2.1 k.2.2) = v ∧ v ≠ 0

theorem sorted_eq : ∀ (l m : List (K3 × Int)), l.Pairwise (fun x y => ltK x.1 y.1) → m.Pairwise (fun x y => ltK x.1 y.1) → (∀ x, x ∈ l ↔ x ∈ m) → l = m
  | [], [], _, _, _ => rfl
  | [], y :: m, _, _, h => by have := (h y).2 (List.mem_cons_self ..); cases this
  | x :: l, [], _, _, h => by have := (h x).1 (List.mem_cons_self ..); cases this
  | x :: l, y :: m, hl, hm, h => by
    obtain ⟨a1, a2⟩ := List.pairwise_cons.1 hl
    obtain ⟨b1, b2⟩ := List.pairwise_cons.1 hm
    have exy : x = y := by
      rcases List.mem_cons.1 ((h x).1 (List.mem_cons_self ..)) with e | e
      · exact e
      · rcases List.mem_cons.1 ((h y).2 (List.mem_cons_self ..)) with e2 | e2
        · exact e2.symm
        · exact (ltK_irrefl _ (ltK_trans (a1 y e2) (b1 x e))).elim
    subst exy
    rw [sorted_eq l m a2 b2 (fun z => ?_)]
    constructor
    · intro hz
      rcases List.mem_cons.1 ((h z).1 (List.mem_cons_of_mem _ hz)) with e | e
      · subst e; exact (ltK_irrefl _ (a1 z hz)).elim
      · exact e
    · intro hz
      rcases List.mem_cons.1 ((h z).2 (List.mem_cons_of_mem _ hz)) with e | e
      · subst e; exact (ltK_irrefl _ (b1 z hz)).elim
      · exact e
theorem IsWl.unique {f : List Int → Option Int} {l m : List (K3 × Int)} (h : IsWl f l) (h' : IsWl f m) : l = m :=
  sorted_eq l m h.sorted h'.sorted (fun ⟨k, v⟩ => (h.mem k v).trans (h'.mem k v).symm)
theorem IsWl.congr {f g : List Int → Option Int} {l : List (K3 × Int)} (h : IsWl f l) (e : ∀ k a b, mget g (key k a b) = mget f (key k a b)) : IsWl g l := ⟨h.sorted, fun k v => by rw [e]; exact h.mem k v⟩

open Classical in
/-- The words of f, in order. -/
noncomputable def wlF (f : List Int → Option Int) : List (K3 × Int) := if h : ∃ l, IsWl f l then Classical.choose h else []
theorem wlF_eq {f : List Int → Option Int} {l : List (K3 × Int)} (h : IsWl f l) : wlF f = l := by
  have hex : ∃ l, IsWl f l := ⟨l, h⟩
  unfold wlF
  rw [dif_pos hex]
  exact (Classical.choose_spec hex).unique h

def wdAt (l : List (K3 × Int)) (i : Nat) : Wd := match l[i]? with
  | some x => ⟨x.1.1, x.1.2.1, x.1.2.2, x.2⟩
  | none => ⟨0, 0, 0, 0⟩

/-- It has no more than so many entries. -/
def FinM (f : List Int → Option Int) (n : Nat) : Prop := ∃ l : List (List Int), l.length ≤ n ∧ ∀ k v, f k = some v → k ∈ l
theorem FinM.nil (n : Nat) : FinM (fun _ => none) n := ⟨[], Nat.zero_le _, fun k v h => by cases h⟩
theorem FinM.mono {f : List Int → Option Int} {n m : Nat} (h : FinM f n) (hm : n ≤ m) : FinM f m := let ⟨l, h1, h2⟩ := h; ⟨l, Nat.le_trans h1 hm, h2⟩
theorem FinM.set {f : List Int → Option Int} {n : Nat} (h : FinM f n) (k : List Int) (v : Option Int) : FinM (setKey f k v) (n + 1) := by
  obtain ⟨l, h1, h2⟩ := h
  refine ⟨k :: l, by simp; omega, fun q u hq => ?_⟩
  unfold setKey at hq
  split at hq
  · rename_i e; subst e; exact List.mem_cons_self ..
  · exact List.mem_cons_of_mem _ (h2 q u hq)
theorem FinM.put {f : List Int → Option Int} {n : Nat} (h : FinM f n) (k a b v : Int) : FinM (memPut f k a b v) (n + 1) := by
  unfold memPut
  split
  · exact h.set _ _
  · exact h.mono (by omega)
theorem FinM.cas {f : List Int → Option Int} {n : Nat} (h : FinM f n) (k a b w v : Int) : FinM (casM f k a b w v) (n + 1) := by
  unfold casM
  split
  · exact h.set _ _
  · exact h.mono (by omega)

theorem nodup_len : ∀ (a b : List (List Int)), a.Nodup → (∀ x ∈ a, x ∈ b) → a.length ≤ b.length
  | [], b, _, _ => Nat.zero_le _
  | x :: r, b, hn, hs => by
    obtain ⟨h1, h2⟩ := List.nodup_cons.1 hn
    have hx := hs x (List.mem_cons_self ..)
    have := nodup_len r (b.erase x) h2 (fun y hy => (List.mem_erase_of_ne (fun e => h1 (by rw [← e]; exact hy))).2 (hs y (List.mem_cons_of_mem _ hy)))
    rw [List.length_erase_of_mem hx] at this
    have : 0 < b.length := List.length_pos_of_mem hx
    simp; omega
end Go.Ev

/-
  The document's words in order: plain definitions and facts.
-/
set_option linter.unusedSimpArgs false
set_option linter.unusedVariables false
namespace Go.Ev

instance ltK_dec (x y : K3) : Decidable (ltK x y) := by unfold ltK; infer_instance
def ltB (x y : K3) : Bool := decide (ltK x y)
def Wd.key (w : Wd) : K3 := (w.k, w.a, w.f)
def Wd.kv (w : Wd) : K3 × Int := (w.key, w.v)

/-- Where x goes. -/
def posL (x : K3) : List (K3 × Int) → Nat
  | [] => 0
  | y :: r => if ltB y.1 x = true then posL x r + 1 else 0
def insL (x : K3 × Int) : List (K3 × Int) → List (K3 × Int)
  | [] => [x]
  | y :: r => if ltB y.1 x.1 = true then y :: insL x r else x :: y :: r

theorem posL_le (x : K3) : ∀ l, posL x l ≤ l.length
  | [] => Nat.le_refl _
  | y :: r => by
    have := posL_le x r
    simp only [posL]
    split <;> simp <;> omega
theorem insL_len (x : K3 × Int) : ∀ l, (insL x l).length = l.length + 1
  | [] => rfl
  | y :: r => by
    simp only [insL]
    split
    · simp [insL_len x r]
    · simp
theorem posL_cons (x : K3) (y : K3 × Int) (r : List (K3 × Int)) : posL x (y :: r) = if ltB y.1 x = true then posL x r + 1 else 0 := rfl
theorem insL_cons (x y : K3 × Int) (r : List (K3 × Int)) : insL x (y :: r) = if ltB y.1 x.1 = true then y :: insL x r else x :: y :: r := rfl
theorem insL_get (x : K3 × Int) : ∀ (l : List (K3 × Int)) (i : Nat), (insL x l)[i]? = if i < posL x.1 l then l[i]? else if i = posL x.1 l then some x else l[i - 1]?
  | [], i => by
    cases i <;> simp [insL, posL]
  | y :: r, i => by
    by_cases h : ltB y.1 x.1 = true
    · have e1 : posL x.1 (y :: r) = posL x.1 r + 1 := by rw [posL_cons, if_pos h]
      have e2 : insL x (y :: r) = y :: insL x r := by rw [insL_cons, if_pos h]
      simp only [e1, e2]
      cases i with
      | zero => simp
      | succ i =>
        rw [List.getElem?_cons_succ, insL_get x r i]
        by_cases h1 : i < posL x.1 r
        · have h1' : i + 1 < posL x.1 r + 1 := by omega
          simp [h1, h1']
        · have h1' : ¬ i + 1 < posL x.1 r + 1 := by omega
          by_cases h2 : i = posL x.1 r
          · simp [h2]
          · have h2' : ¬ i + 1 = posL x.1 r + 1 := by omega
            obtain ⟨k, rfl⟩ : ∃ k, i = k + 1 := ⟨i - 1, by omega⟩
            simp [h1, h1', h2, h2']
    · have e1 : posL x.1 (y :: r) = 0 := by rw [posL_cons, if_neg h]
      have e2 : insL x (y :: r) = x :: y :: r := by rw [insL_cons, if_neg h]
      simp only [e1, e2]
      cases i with
      | zero => simp
      | succ i => simp
theorem posL_lt {x : K3} : ∀ {l : List (K3 × Int)} {i : Nat}, i < posL x l → ∃ y, l[i]? = some y ∧ ltB y.1 x = true
  | [], i, h => by simp [posL] at h
  | y :: r, i, h => by
    rw [posL_cons] at h
    by_cases hy : ltB y.1 x = true
    · rw [if_pos hy] at h
      cases i with
      | zero => exact ⟨y, by simp, hy⟩
      | succ i => obtain ⟨z, h1, h2⟩ := posL_lt (x := x) (l := r) (i := i) (by omega); exact ⟨z, by simpa using h1, h2⟩
    · rw [if_neg hy] at h; omega
theorem posL_at {x : K3} : ∀ {l : List (K3 × Int)} {y}, l[posL x l]? = some y → ltB y.1 x = false
  | [], y, h => by simp at h
  | z :: r, y, h => by
    rw [posL_cons] at h
    by_cases hy : ltB z.1 x = true
    · rw [if_pos hy, List.getElem?_cons_succ] at h
      exact posL_at h
    · rw [if_neg hy] at h
      simp at h; subst h; simpa using hy

theorem insL_mem (x : K3 × Int) : ∀ l y, y ∈ insL x l ↔ y = x ∨ y ∈ l
  | [], y => by simp [insL]
  | z :: r, y => by
    simp only [insL]
    split
    · simp only [List.mem_cons, insL_mem x r]
      constructor
      · rintro (h | h | h) <;> simp [h]
      · rintro (h | h | h) <;> simp [h]
    · simp
theorem insL_sorted (x : K3 × Int) : ∀ l, l.Pairwise (fun a b => ltK a.1 b.1) → (∀ y ∈ l, y.1 ≠ x.1) → (insL x l).Pairwise (fun a b => ltK a.1 b.1)
  | [], _, _ => by simp [insL]
  | z :: r, h, hn => by
    obtain ⟨h1, h2⟩ := List.pairwise_cons.1 h
    simp only [insL]
    split
    · rename_i hz
      refine List.pairwise_cons.2 ⟨fun y hy => ?_, insL_sorted x r h2 (fun y hy => hn y (List.mem_cons_of_mem _ hy))⟩
      rcases (insL_mem x r y).1 hy with rfl | hy
      · exact of_decide_eq_true hz
      · exact h1 y hy
    · rename_i hz
      have hz : ¬ ltK z.1 x.1 := by simpa [ltB] using hz
      have hx : ltK x.1 z.1 := by
        by_cases e : ltK x.1 z.1
        · exact e
        · exact (hn z (List.mem_cons_self ..) (ltK_total hz e)).elim
      refine List.pairwise_cons.2 ⟨fun y hy => ?_, h⟩
      rcases List.mem_cons.1 hy with rfl | hy
      · exact hx
      · exact ltK_trans hx (h1 y hy)

/-- The first i words, those that are not 0, in order. -/
def rwl (D : DM) : Nat → List (K3 × Int)
  | 0 => []
  | i + 1 => if (D.W i).v = 0 then rwl D i else insL (D.W i).kv (rwl D i)
theorem rwl_len (D : DM) : ∀ i, (rwl D i).length ≤ i
  | 0 => Nat.le_refl _
  | i + 1 => by
    have := rwl_len D i
    simp only [rwl]
    split
    · omega
    · rw [insL_len]; omega
theorem rwl_mem (D : DM) : ∀ i y, y ∈ rwl D i ↔ ∃ j, j < i ∧ (D.W j).kv = y ∧ (D.W j).v ≠ 0
  | 0, y => by simp [rwl]
  | i + 1, y => by
    simp only [rwl]
    split
    · rename_i h0
      rw [rwl_mem D i]
      constructor
      · rintro ⟨j, h1, h2⟩; exact ⟨j, by omega, h2⟩
      · rintro ⟨j, h1, h2, h3⟩
        by_cases e : j = i
        · subst e; exact (h3 h0).elim
        · exact ⟨j, by omega, h2, h3⟩
    · rename_i h0
      rw [insL_mem, rwl_mem D i]
      constructor
      · rintro (rfl | ⟨j, h1, h2⟩)
        · exact ⟨i, by omega, rfl, h0⟩
        · exact ⟨j, by omega, h2⟩
      · rintro ⟨j, h1, h2, h3⟩
        by_cases e : j = i
        · subst e; exact .inl h2.symm
        · exact .inr ⟨j, by omega, h2, h3⟩

/-- No key stands there twice. -/
def DD (D : DM) : Prop := ∀ i j, i < D.n → j < D.n → (D.W i).key = (D.W j).key → i = j
theorem rwl_sorted {D : DM} (h : DD D) : ∀ i, i ≤ D.n → (rwl D i).Pairwise (fun a b => ltK a.1 b.1)
  | 0, _ => List.Pairwise.nil
  | i + 1, hi => by
    simp only [rwl]
    split
    · exact rwl_sorted h i (by omega)
    · refine insL_sorted _ _ (rwl_sorted h i (by omega)) (fun y hy e => ?_)
      obtain ⟨j, h1, rfl, _⟩ := (rwl_mem D i y).1 hy
      have := h j i (by omega) (by omega) e
      omega
theorem dWord_of {D : DM} (h : DD D) {j : Nat} (hj : j < D.n) : dWord D (D.W j).k (D.W j).a (D.W j).f = (D.W j).v := by
  rcases first_hit D (D.W j).k (D.W j).a (D.W j).f with q | ⟨i, q1, q2, q3⟩
  · have := q j hj
    rw [Nat.zero_add] at this
    rw [hit_iff.2 ⟨rfl, rfl, rfl⟩] at this; cases this
  · rw [dWord_at q1 q2 q3, Nat.zero_add]
    rw [Nat.zero_add] at q2
    obtain ⟨e1, e2, e3⟩ := hit_iff.1 q2
    have : i = j := h i j q1 hj (by simp [Wd.key, e1, e2, e3])
    rw [this]
theorem rwl_isWl {D : DM} {M : List Int → Option Int} (h : DD D) (a : Agr M D) : IsWl M (rwl D D.n) := by
  refine ⟨rwl_sorted h D.n (Nat.le_refl _), fun k v => ?_⟩
  rw [rwl_mem, a]
  obtain ⟨k1, k2, k3⟩ := k
  constructor
  · rintro ⟨j, hj, e, hv⟩
    simp only [Wd.kv, Wd.key, Prod.mk.injEq] at e
    obtain ⟨⟨e1, e2, e3⟩, e4⟩ := e
    subst e1; subst e2; subst e3; subst e4
    exact ⟨dWord_of h hj, hv⟩
  · rintro ⟨e, hv⟩
    rcases first_hit D k1 k2 k3 with q | ⟨i, q1, q2, q3⟩
    · rw [dWord_no q] at e; exact (hv e.symm).elim
    · rw [dWord_at q1 q2 q3, Nat.zero_add] at e
      rw [Nat.zero_add] at q2
      obtain ⟨e1, e2, e3⟩ := hit_iff.1 q2
      exact ⟨i, q1, by simp [Wd.kv, Wd.key, e1, e2, e3, e], by rw [e]; exact hv⟩
theorem wlF_rwl {D : DM} {M : List Int → Option Int} (h : DD D) (a : Agr M D) : wlF M = rwl D D.n := wlF_eq (rwl_isWl h a)

theorem DD.put {D : DM} (h : DD D) (k a f v : Int) : DD (dPut D k a f v) := by
  cases hm : mayA k a f with
  | false => rw [dPut_may hm]; exact h
  | true =>
    rcases first_hit D k a f with q | ⟨j, q1, q2, q3⟩
    · rw [dPut_no hm q]
      intro i i' hi hi' e
      simp only [dAdd] at hi hi' e
      have key : ∀ i, i < D.n → (D.W i).key ≠ (k, a, f) := fun i hi e => by
        have := q i hi
        rw [Nat.zero_add] at this
        simp only [Wd.key, Prod.mk.injEq] at e
        rw [hit_iff.2 e] at this; cases this
      by_cases h1 : i < D.n
      · by_cases h2 : i' < D.n
        · rw [if_pos h1, if_pos h2] at e; exact h i i' h1 h2 e
        · rw [if_pos h1, if_neg h2] at e; exact (key i h1 e).elim
      · by_cases h2 : i' < D.n
        · rw [if_neg h1, if_pos h2] at e; exact (key i' h2 e.symm).elim
        · omega
    · rw [dPut_at hm q1 q2 q3]
      intro i i' hi hi' e
      refine h i i' hi hi' ?_
      have : ∀ i, ((dSet D j v).W i).key = (D.W i).key := fun i => by
        simp only [dSet]
        split <;> rfl
      rwa [this, this] at e
theorem DD.cas {D : DM} (h : DD D) (k a f w v : Int) : DD (dCasM D k a f w v) := by
  unfold dCasM
  split
  · exact h.put k a f v
  · exact h
theorem DD.nil : DD ⟨0, fun _ => ⟨0, 0, 0, 0⟩⟩ := fun i j hi => absurd hi (Nat.not_lt_zero i)

/-- What the loop over all acts keeps. -/
structure Fine (S : MS) (R : RS) (n : Nat) : Prop where
  both : Both S R
  dd : DD R.D
  fin : FinM S.M n
  num : R.D.n ≤ n
theorem Fine.store {S : MS} {R : RS} {n : Nat} (h : Fine S R n) (k a f v : Int) : Fine (mStore S k a f v) (rStore R k a f v) (n + 1) :=
  ⟨h.both.store k a f v, h.dd.put k a f v, h.fin.put k a f v, by have := (dPut_n R.D k a f v).1; have := h.num; show (dPut R.D k a f v).n ≤ n + 1; omega⟩
theorem Fine.mono {S : MS} {R : RS} {n m : Nat} (h : Fine S R n) (hm : n ≤ m) : Fine S R m := ⟨h.both, h.dd, h.fin.mono hm, Nat.le_trans h.num hm⟩
theorem Fine.load {S : MS} {R : RS} {n : Nat} (h : Fine S R n) (k a f : Int) : Fine (mLoad S k a f) (rLoad R k a f) n := ⟨h.both.load k a f, h.dd, h.fin, h.num⟩
theorem dCasM_n (D : DM) (k a f w v : Int) : (dCasM D k a f w v).n ≤ D.n + 1 := by
  unfold dCasM
  split
  · exact (dPut_n D k a f v).1
  · omega
theorem Fine.cas {S : MS} {R : RS} {n : Nat} (h : Fine S R n) (k a f w v : Int) : Fine (mCas S k a f w v) (rCas R k a f w v) (n + 1) :=
  ⟨h.both.cas k a f w v, h.dd.cas k a f w v, h.fin.cas k a f w v, by have := dCasM_n R.D k a f w v; have := h.num; show (dCasM R.D k a f w v).n ≤ n + 1; omega⟩
theorem Fine.nil : Fine ms0 rs0 0 := ⟨Both.nil, DD.nil, FinM.nil 0, Nat.le_refl _⟩
theorem fineN (W : Nat → Wd) : ∀ n, Fine (msN W n) (rsN W n) n
  | 0 => Fine.nil
  | n + 1 => (fineN W n).store ..

/-- The document's memory out of its cells. -/
def mkR (n : Nat) (g : Nat → Nat → AV) (s2 : Int) (L2 : LS) : RS := ⟨dOf n g, s2, L2⟩
theorem mkR_self (R : RS) : mkR R.D.n (wdF R.D.W) R.st R.L = R := rfl

/-! ### rows -/
theorem rowsOf_w (k a f v : Int) : rowsOf 4 [.sym .u8 k, .sym .i64 a, .sym .i64 f, .sym .u64 v] 0 = wdR ⟨k, a, f, v⟩ := by
  funext j
  match j with
  | 0 => rfl
  | 1 => rfl
  | 2 => rfl
  | 3 => rfl
  | j + 4 => simp [rowsOf, nth, wdR]
end Go.Ev
