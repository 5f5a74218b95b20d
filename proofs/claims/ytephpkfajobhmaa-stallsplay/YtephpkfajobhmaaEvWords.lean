/-
  EvWords and what follows it.
-/
import Derived.Test.YtephpkfajobhmaaEvLoc2
/-
  The words of a memory, in order: plain definitions and facts.
-/
set_option linter.unusedSimpArgs false
set_option linter.unusedVariables false
namespace Go.Ev

abbrev K3 := Int × Int × Int
/-- Does a key stand ahead of another one? -/
def ltK (x y : K3) : Prop := x.1 < y.1 ∨ x.1 = y.1 ∧ (x.2.1 < y.2.1 ∨ x.2.1 = y.2.1 ∧ x.2.2 < y.2.2)
theorem ltK_irrefl (x : K3) : ¬ ltK x x := by unfold ltK; omega
theorem ltK_trans {x y z : K3} (h1 : ltK x y) (h2 : ltK y z) : ltK x z := by unfold ltK at *; omega
theorem ltK_total {x y : K3} (h1 : ¬ ltK x y) (h2 : ¬ ltK y x) : x = y := by
  unfold ltK at h1 h2
  exact Prod.ext (by omega) (Prod.ext (by omega) (by omega))

/-- A list is the words of f, in order. -/
structure IsWl (f : List Int → Option Int) (l : List (K3 × Int)) : Prop where
  sorted : l.Pairwise (fun x y => ltK x.1 y.1)
  mem : ∀ k v, (k, v) ∈ l ↔ mget f (key k.1 k.2.1 k.2.2) = v ∧ v ≠ 0

theorem sorted_eq : ∀ (l m : List (K3 × Int)), l.Pairwise (fun x y => ltK x.1 y.1) → m.Pairwise (fun x y => ltK x.1 y.1) → (∀ x, x ∈ l ↔ x ∈ m) → l = m
  | [], [], _, _, _ => rfl
  | [], y :: m, _, _, h => by have := (h y).2 (List.mem_cons_self ..); cases this
  | x :: l, [], _, _, h => by have := (h x).1 (List.mem_cons_self ..); cases this
  | x :: l, y :: m, hl, hm, h => by
    obtain ⟨a1, a2⟩ := List.pairwise_cons.1 hl
    obtain ⟨b1, b2⟩ := List.pairwise_cons.1 hm
    have exy : x = y := by
      rcases List.mem_cons.1 ((h x).1 (List.mem_cons_self ..)) with e | e
      · exact e
      · rcases List.mem_cons.1 ((h y).2 (List.mem_cons_self ..)) with e2 | e2
        · exact e2.symm
        · exact (ltK_irrefl _ (ltK_trans (a1 y e2) (b1 x e))).elim
    subst exy
    rw [sorted_eq l m a2 b2 (fun z => ?_)]
    constructor
    · intro hz
      rcases List.mem_cons.1 ((h z).1 (List.mem_cons_of_mem _ hz)) with e | e
      · subst e; exact (ltK_irrefl _ (a1 z hz)).elim
      · exact e
    · intro hz
      rcases List.mem_cons.1 ((h z).2 (List.mem_cons_of_mem _ hz)) with e | e
      · subst e; exact (ltK_irrefl _ (b1 z hz)).elim
      · exact e
theorem IsWl.unique {f : List Int → Option Int} {l m : List (K3 × Int)} (h : IsWl f l) (h' : IsWl f m) : l = m :=
  sorted_eq l m h.sorted h'.sorted (fun ⟨k, v⟩ => (h.mem k v).trans (h'.mem k v).symm)
theorem IsWl.congr {f g : List Int → Option Int} {l : List (K3 × Int)} (h : IsWl f l) (e : ∀ k a b, mget g (key k a b) = mget f (key k a b)) : IsWl g l := ⟨h.sorted, fun k v => by rw [e]; exact h.mem k v⟩

open Classical in
/-- The words of f, in order. -/
noncomputable def wlF (f : List Int → Option Int) : List (K3 × Int) := if h : ∃ l, IsWl f l then Classical.choose h else []
theorem wlF_eq {f : List Int → Option Int} {l : List (K3 × Int)} (h : IsWl f l) : wlF f = l := by
  have hex : ∃ l, IsWl f l := ⟨l, h⟩
  unfold wlF
  rw [dif_pos hex]
  exact (Classical.choose_spec hex).unique h

def wdAt (l : List (K3 × Int)) (i : Nat) : Wd := match l[i]? with
  | some x => ⟨x.1.1, x.1.2.1, x.1.2.2, x.2⟩
  | none => ⟨0, 0, 0, 0⟩

/-- It has no more than so many entries. -/
def FinM (f : List Int → Option Int) (n : Nat) : Prop := ∃ l : List (List Int), l.length ≤ n ∧ ∀ k v, f k = some v → k ∈ l
theorem FinM.nil (n : Nat) : FinM (fun _ => none) n := ⟨[], Nat.zero_le _, fun k v h => by cases h⟩
theorem FinM.mono {f : List Int → Option Int} {n m : Nat} (h : FinM f n) (hm : n ≤ m) : FinM f m := let ⟨l, h1, h2⟩ := h; ⟨l, Nat.le_trans h1 hm, h2⟩
theorem FinM.set {f : List Int → Option Int} {n : Nat} (h : FinM f n) (k : List Int) (v : Option Int) : FinM (setKey f k v) (n + 1) := by
  obtain ⟨l, h1, h2⟩ := h
  refine ⟨k :: l, by simp; omega, fun q u hq => ?_⟩
  unfold setKey at hq
  split at hq
  · rename_i e; subst e; exact List.mem_cons_self ..
  · exact List.mem_cons_of_mem _ (h2 q u hq)
theorem FinM.put {f : List Int → Option Int} {n : Nat} (h : FinM f n) (k a b v : Int) : FinM (memPut f k a b v) (n + 1) := by
  unfold memPut
  split
  · exact h.set _ _
  · exact h.mono (by omega)
theorem FinM.cas {f : List Int → Option Int} {n : Nat} (h : FinM f n) (k a b w v : Int) : FinM (casM f k a b w v) (n + 1) := by
  unfold casM
  split
  · exact h.set _ _
  · exact h.mono (by omega)

theorem nodup_len : ∀ (a b : List (List Int)), a.Nodup → (∀ x ∈ a, x ∈ b) → a.length ≤ b.length
  | [], b, _, _ => Nat.zero_le _
  | x :: r, b, hn, hs => by
    obtain ⟨h1, h2⟩ := List.nodup_cons.1 hn
    have hx := hs x (List.mem_cons_self ..)
    have := nodup_len r (b.erase x) h2 (fun y hy => (List.mem_erase_of_ne (fun e => h1 (by rw [← e]; exact hy))).2 (hs y (List.mem_cons_of_mem _ hy)))
    rw [List.length_erase_of_mem hx] at this
    have : 0 < b.length := List.length_pos_of_mem hx
    simp; omega
end Go.Ev

/-
  The document's words in order: plain definitions and facts.
-/
set_option linter.unusedSimpArgs false
set_option linter.unusedVariables false
namespace Go.Ev

instance ltK_dec (x y : K3) : Decidable (ltK x y) := by unfold ltK; infer_instance
def ltB (x y : K3) : Bool := decide (ltK x y)
def Wd.key (w : Wd) : K3 := (w.k, w.a, w.f)
def Wd.kv (w : Wd) : K3 × Int := (w.key, w.v)

/-- Where x goes. -/
def posL (x : K3) : List (K3 × Int) → Nat
  | [] => 0
  | y :: r => if ltB y.1 x = true then posL x r + 1 else 0
def insL (x : K3 × Int) : List (K3 × Int) → List (K3 × Int)
  | [] => [x]
  | y :: r => if ltB y.1 x.1 = true then y :: insL x r else x :: y :: r

theorem posL_le (x : K3) : ∀ l, posL x l ≤ l.length
  | [] => Nat.le_refl _
  | y :: r => by
    have := posL_le x r
    simp only [posL]
    split <;> simp <;> omega
theorem insL_len (x : K3 × Int) : ∀ l, (insL x l).length = l.length + 1
  | [] => rfl
  | y :: r => by
    simp only [insL]
    split
    · simp [insL_len x r]
    · simp
theorem posL_cons (x : K3) (y : K3 × Int) (r : List (K3 × Int)) : posL x (y :: r) = if ltB y.1 x = true then posL x r + 1 else 0 := rfl
theorem insL_cons (x y : K3 × Int) (r : List (K3 × Int)) : insL x (y :: r) = if ltB y.1 x.1 = true then y :: insL x r else x :: y :: r := rfl
theorem insL_get (x : K3 × Int) : ∀ (l : List (K3 × Int)) (i : Nat), (insL x l)[i]? = if i < posL x.1 l then l[i]? else if i = posL x.1 l then some x else l[i - 1]?
  | [], i => by
    cases i <;> simp [insL, posL]
  | y :: r, i => by
    by_cases h : ltB y.1 x.1 = true
    · have e1 : posL x.1 (y :: r) = posL x.1 r + 1 := by rw [posL_cons, if_pos h]
      have e2 : insL x (y :: r) = y :: insL x r := by rw [insL_cons, if_pos h]
      simp only [e1, e2]
      cases i with
      | zero => simp
      | succ i =>
        rw [List.getElem?_cons_succ, insL_get x r i]
        by_cases h1 : i < posL x.1 r
        · have h1' : i + 1 < posL x.1 r + 1 := by omega
          simp [h1, h1']
        · have h1' : ¬ i + 1 < posL x.1 r + 1 := by omega
          by_cases h2 : i = posL x.1 r
          · simp [h2]
          · have h2' : ¬ i + 1 = posL x.1 r + 1 := by omega
            obtain ⟨k, rfl⟩ : ∃ k, i = k + 1 := ⟨i - 1, by omega⟩
            simp [h1, h1', h2, h2']
    · have e1 : posL x.1 (y :: r) = 0 := by rw [posL_cons, if_neg h]
      have e2 : insL x (y :: r) = x :: y :: r := by rw [insL_cons, if_neg h]
      simp only [e1, e2]
      cases i with
      | zero => simp
      | succ i => simp
theorem posL_lt {x : K3} : ∀ {l : List (K3 × Int)} {i : Nat}, i < posL x l → ∃ y, l[i]? = some y ∧ ltB y.1 x = true
  | [], i, h => by simp [posL] at h
  | y :: r, i, h => by
    rw [posL_cons] at h
    by_cases hy : ltB y.1 x = true
    · rw [if_pos hy] at h
      cases i with
      | zero => exact ⟨y, by simp, hy⟩
      | succ i => obtain ⟨z, h1, h2⟩ := posL_lt (x := x) (l := r) (i := i) (by omega); exact ⟨z, by simpa using h1, h2⟩
    · rw [if_neg hy] at h; omega
theorem posL_at {x : K3} : ∀ {l : List (K3 × Int)} {y}, l[posL x l]? = some y → ltB y.1 x = false
  | [], y, h => by simp at h
  | z :: r, y, h => by
    rw [posL_cons] at h
    by_cases hy : ltB z.1 x = true
    · rw [if_pos hy, List.getElem?_cons_succ] at h
      exact posL_at h
    · rw [if_neg hy] at h
      simp at h; subst h; simpa using hy

theorem insL_mem (x : K3 × Int) : ∀ l y, y ∈ insL x l ↔ y = x ∨ y ∈ l
  | [], y => by simp [insL]
  | z :: r, y => by
    simp only [insL]
    split
    · simp only [List.mem_cons, insL_mem x r]
      constructor
      · rintro (h | h | h) <;> simp [h]
      · rintro (h | h | h) <;> simp [h]
    · simp
theorem insL_sorted (x : K3 × Int) : ∀ l, l.Pairwise (fun a b => ltK a.1 b.1) → (∀ y ∈ l, y.1 ≠ x.1) → (insL x l).Pairwise (fun a b => ltK a.1 b.1)
  | [], _, _ => by simp [insL]
  | z :: r, h, hn => by
    obtain ⟨h1, h2⟩ := List.pairwise_cons.1 h
    simp only [insL]
    split
    · rename_i hz
      refine List.pairwise_cons.2 ⟨fun y hy => ?_, insL_sorted x r h2 (fun y hy => hn y (List.mem_cons_of_mem _ hy))⟩
      rcases (insL_mem x r y).1 hy with rfl | hy
      · exact of_decide_eq_true hz
      · exact h1 y hy
    · rename_i hz
      have hz : ¬ ltK z.1 x.1 := by simpa [ltB] using hz
      have hx : ltK x.1 z.1 := by
        by_cases e : ltK x.1 z.1
        · exact e
        · exact (hn z (List.mem_cons_self ..) (ltK_total hz e)).elim
      refine List.pairwise_cons.2 ⟨fun y hy => ?_, h⟩
      rcases List.mem_cons.1 hy with rfl | hy
      · exact hx
      · exact ltK_trans hx (h1 y hy)

/-- The first i words, those that are not 0, in order. -/
def rwl (D : DM) : Nat → List (K3 × Int)
  | 0 => []
  | i + 1 => if (D.W i).v = 0 then rwl D i else insL (D.W i).kv (rwl D i)
theorem rwl_len (D : DM) : ∀ i, (rwl D i).length ≤ i
  | 0 => Nat.le_refl _
  | i + 1 => by
    have := rwl_len D i
    simp only [rwl]
    split
    · omega
    · rw [insL_len]; omega
theorem rwl_mem (D : DM) : ∀ i y, y ∈ rwl D i ↔ ∃ j, j < i ∧ (D.W j).kv = y ∧ (D.W j).v ≠ 0
  | 0, y => by simp [rwl]
  | i + 1, y => by
    simp only [rwl]
    split
    · rename_i h0
      rw [rwl_mem D i]
      constructor
      · rintro ⟨j, h1, h2⟩; exact ⟨j, by omega, h2⟩
      · rintro ⟨j, h1, h2, h3⟩
        by_cases e : j = i
        · subst e; exact (h3 h0).elim
        · exact ⟨j, by omega, h2, h3⟩
    · rename_i h0
      rw [insL_mem, rwl_mem D i]
      constructor
      · rintro (rfl | ⟨j, h1, h2⟩)
        · exact ⟨i, by omega, rfl, h0⟩
        · exact ⟨j, by omega, h2⟩
      · rintro ⟨j, h1, h2, h3⟩
        by_cases e : j = i
        · subst e; exact .inl h2.symm
        · exact .inr ⟨j, by omega, h2, h3⟩

/-- No key stands there twice. -/
def DD (D : DM) : Prop := ∀ i j, i < D.n → j < D.n → (D.W i).key = (D.W j).key → i = j
theorem rwl_sorted {D : DM} (h : DD D) : ∀ i, i ≤ D.n → (rwl D i).Pairwise (fun a b => ltK a.1 b.1)
  | 0, _ => List.Pairwise.nil
  | i + 1, hi => by
    simp only [rwl]
    split
    · exact rwl_sorted h i (by omega)
    · refine insL_sorted _ _ (rwl_sorted h i (by omega)) (fun y hy e => ?_)
      obtain ⟨j, h1, rfl, _⟩ := (rwl_mem D i y).1 hy
      have := h j i (by omega) (by omega) e
      omega
theorem dWord_of {D : DM} (h : DD D) {j : Nat} (hj : j < D.n) : dWord D (D.W j).k (D.W j).a (D.W j).f = (D.W j).v := by
  rcases first_hit D (D.W j).k (D.W j).a (D.W j).f with q | ⟨i, q1, q2, q3⟩
  · have := q j hj
    rw [Nat.zero_add] at this
    rw [hit_iff.2 ⟨rfl, rfl, rfl⟩] at this; cases this
  · rw [dWord_at q1 q2 q3, Nat.zero_add]
    rw [Nat.zero_add] at q2
    obtain ⟨e1, e2, e3⟩ := hit_iff.1 q2
    have : i = j := h i j q1 hj (by simp [Wd.key, e1, e2, e3])
    rw [this]
theorem rwl_isWl {D : DM} {M : List Int → Option Int} (h : DD D) (a : Agr M D) : IsWl M (rwl D D.n) := by
  refine ⟨rwl_sorted h D.n (Nat.le_refl _), fun k v => ?_⟩
  rw [rwl_mem, a]
  obtain ⟨k1, k2, k3⟩ := k
  constructor
  · rintro ⟨j, hj, e, hv⟩
    simp only [Wd.kv, Wd.key, Prod.mk.injEq] at e
    obtain ⟨⟨e1, e2, e3⟩, e4⟩ := e
    subst e1; subst e2; subst e3; subst e4
    exact ⟨dWord_of h hj, hv⟩
  · rintro ⟨e, hv⟩
    rcases first_hit D k1 k2 k3 with q | ⟨i, q1, q2, q3⟩
    · rw [dWord_no q] at e; exact (hv e.symm).elim
    · rw [dWord_at q1 q2 q3, Nat.zero_add] at e
      rw [Nat.zero_add] at q2
      obtain ⟨e1, e2, e3⟩ := hit_iff.1 q2
      exact ⟨i, q1, by simp [Wd.kv, Wd.key, e1, e2, e3, e], by rw [e]; exact hv⟩
theorem wlF_rwl {D : DM} {M : List Int → Option Int} (h : DD D) (a : Agr M D) : wlF M = rwl D D.n := wlF_eq (rwl_isWl h a)

theorem DD.put {D : DM} (h : DD D) (k a f v : Int) : DD (dPut D k a f v) := by
  cases hm : mayA k a f with
  | false => rw [dPut_may hm]; exact h
  | true =>
    rcases first_hit D k a f with q | ⟨j, q1, q2, q3⟩
    · rw [dPut_no hm q]
      intro i i' hi hi' e
      simp only [dAdd] at hi hi' e
      have key : ∀ i, i < D.n → (D.W i).key ≠ (k, a, f) := fun i hi e => by
        have := q i hi
        rw [Nat.zero_add] at this
        simp only [Wd.key, Prod.mk.injEq] at e
        rw [hit_iff.2 e] at this; cases this
      by_cases h1 : i < D.n
      · by_cases h2 : i' < D.n
        · rw [if_pos h1, if_pos h2] at e; exact h i i' h1 h2 e
        · rw [if_pos h1, if_neg h2] at e; exact (key i h1 e).elim
      · by_cases h2 : i' < D.n
        · rw [if_neg h1, if_pos h2] at e; exact (key i' h2 e.symm).elim
        · omega
    · rw [dPut_at hm q1 q2 q3]
      intro i i' hi hi' e
      refine h i i' hi hi' ?_
      have : ∀ i, ((dSet D j v).W i).key = (D.W i).key := fun i => by
        simp only [dSet]
        split <;> rfl
      rwa [this, this] at e
theorem DD.cas {D : DM} (h : DD D) (k a f w v : Int) : DD (dCasM D k a f w v) := by
  unfold dCasM
  split
  · exact h.put k a f v
  · exact h
theorem DD.nil : DD ⟨0, fun _ => ⟨0, 0, 0, 0⟩⟩ := fun i j hi => absurd hi (Nat.not_lt_zero i)

/-- What the loop over all acts keeps. -/
structure Fine (S : MS) (R : RS) (n : Nat) : Prop where
  both : Both S R
  dd : DD R.D
  fin : FinM S.M n
  num : R.D.n ≤ n
theorem Fine.store {S : MS} {R : RS} {n : Nat} (h : Fine S R n) (k a f v : Int) : Fine (mStore S k a f v) (rStore R k a f v) (n + 1) :=
  ⟨h.both.store k a f v, h.dd.put k a f v, h.fin.put k a f v, by have := (dPut_n R.D k a f v).1; have := h.num; show (dPut R.D k a f v).n ≤ n + 1; omega⟩
theorem Fine.mono {S : MS} {R : RS} {n m : Nat} (h : Fine S R n) (hm : n ≤ m) : Fine S R m := ⟨h.both, h.dd, h.fin.mono hm, Nat.le_trans h.num hm⟩
theorem Fine.load {S : MS} {R : RS} {n : Nat} (h : Fine S R n) (k a f : Int) : Fine (mLoad S k a f) (rLoad R k a f) n := ⟨h.both.load k a f, h.dd, h.fin, h.num⟩
theorem dCasM_n (D : DM) (k a f w v : Int) : (dCasM D k a f w v).n ≤ D.n + 1 := by
  unfold dCasM
  split
  · exact (dPut_n D k a f v).1
  · omega
theorem Fine.cas {S : MS} {R : RS} {n : Nat} (h : Fine S R n) (k a f w v : Int) : Fine (mCas S k a f w v) (rCas R k a f w v) (n + 1) :=
  ⟨h.both.cas k a f w v, h.dd.cas k a f w v, h.fin.cas k a f w v, by have := dCasM_n R.D k a f w v; have := h.num; show (dCasM R.D k a f w v).n ≤ n + 1; omega⟩
theorem Fine.nil : Fine ms0 rs0 0 := ⟨Both.nil, DD.nil, FinM.nil 0, Nat.le_refl _⟩
theorem fineN (W : Nat → Wd) : ∀ n, Fine (msN W n) (rsN W n) n
  | 0 => Fine.nil
  | n + 1 => (fineN W n).store ..

/-- The document's memory out of its cells. -/
def mkR (n : Nat) (g : Nat → Nat → AV) (s2 : Int) (L2 : LS) : RS := ⟨dOf n g, s2, L2⟩
theorem mkR_self (R : RS) : mkR R.D.n (wdF R.D.W) R.st R.L = R := rfl

/-! ### rows -/
theorem rowsOf_w (k a f v : Int) : rowsOf 4 [.sym .u8 k, .sym .i64 a, .sym .i64 f, .sym .u64 v] 0 = wdR ⟨k, a, f, v⟩ := by
  funext j
  match j with
  | 0 => rfl
  | 1 => rfl
  | 2 => rfl
  | 3 => rfl
  | j + 4 => simp [rowsOf, nth, wdR]
end Go.Ev

/-
  A contract over closed values serves symbolic ones that are those very values.
-/
set_option linter.unusedSimpArgs false
set_option linter.unusedVariables false
namespace Go.Ev

mutual
def symV : AV → AV
  | .int k n => .sym k n
  | .bool b => .symb b
  | .agg l => .agg (symL l)
  | .tup l => .tup (symL l)
  | v => v
def symL : List AV → List AV
  | [] => []
  | v :: r => symV v :: symL r
end
mutual
theorem symV_den {ρ : Ren} : ∀ (v : AV), den ρ (symV v) = den ρ v
  | .top => rfl
  | .int .. => rfl
  | .sym .. => rfl
  | .bool .. => rfl
  | .symb .. => rfl
  | .nilp => rfl
  | .ptr .. => rfl
  | .nils => rfl
  | .xs .. => rfl
  | .ss .. => rfl
  | .nilm => rfl
  | .map .. => rfl
  | .nilf => rfl
  | .func .. => rfl
  | .nili => rfl
  | .iface .. => rfl
  | .agg l => by simp only [symV, den, symL_den l]
  | .tup l => by simp only [symV, den, symL_den l]
  | .stamp .. => rfl
  | .raw .. => rfl
theorem symL_den {ρ : Ren} : ∀ (l : List AV), denL ρ (symL l) = denL ρ l
  | [] => rfl
  | v :: r => by simp only [symL, denL, symV_den v, symL_den r]
end
theorem symV_top : ∀ {v : AV}, symV v = .top → v = .top
  | .top, _ => rfl
  | .int .., h => by cases h
  | .sym .., h => by cases h
  | .bool .., h => by cases h
  | .symb .., h => by cases h
  | .nilp, h => by cases h
  | .ptr .., h => by cases h
  | .nils, h => by cases h
  | .xs .., h => by cases h
  | .ss .., h => by cases h
  | .nilm, h => by cases h
  | .map .., h => by cases h
  | .nilf, h => by cases h
  | .func .., h => by cases h
  | .nili, h => by cases h
  | .iface .., h => by cases h
  | .agg l, h => by simp only [symV] at h; cases h
  | .tup l, h => by simp only [symV] at h; cases h
  | .stamp .., h => by cases h
  | .raw .., h => by cases h
def symO : AO → AO
  | .cells wd l => .cells wd (symL l)
  | o => o
theorem symO_ro (o : AO) : (symO o).ro = o.ro := by cases o <;> rfl
theorem symL_get : ∀ (l : List AV) (j : Nat) v, l[j]? = some v → (symL l)[j]? = some (symV v)
  | [], j, v, h => by simp at h
  | a :: r, 0, v, h => by simp at h; simp [symL, h]
  | a :: r, j + 1, v, h => by simp at h; simp [symL]; exact symL_get r j v h
theorem symL_length : ∀ l : List AV, (symL l).length = l.length
  | [] => rfl
  | a :: r => by simp [symL, symL_length r]
theorem symO_rep {P : Program} {ρ : Ren} {w : World} {l : Loc} {o : AO} (h : ObjRep P ρ w l (symO o)) : ObjRep P ρ w l o := by
  cases o with
  | cells wd cs =>
    obtain ⟨h0, h1, h2, c, t, fr, hb, hf, hc, hc2, hv⟩ := h
    refine ⟨h0, h1, h2, c, t, fr, hb, hf, by rw [symL_length] at hc; exact hc, hc2, fun j v hj => ?_⟩
    obtain ⟨x, hx, hr⟩ := hv j _ (symL_get cs j v hj)
    refine ⟨x, hx, ?_⟩
    rcases hr with hr | hr
    · exact .inl (symV_top hr)
    · exact .inr (by rw [← symV_den]; exact hr)
  | arr wd sh ro len f => exact h
  | map t f => exact h
  | mapP t f n k => exact h
def symH : List (Nat × AO) → List (Nat × AO)
  | [] => []
  | (n, o) :: r => (n, symO o) :: symH r
theorem symH_get : ∀ (h : List (Nat × AO)) (n : Nat) o, get h n = some o → get (symH h) n = some (symO o)
  | [], n, o, e => by simp [get] at e
  | (m, x) :: r, n, o, e => by
    simp only [symH, get] at e ⊢
    split at e
    · cases e; rfl
    · exact symH_get r n o e
theorem symH_get' : ∀ (h : List (Nat × AO)) (n : Nat) o, get (symH h) n = some o → ∃ o1, get h n = some o1 ∧ o = symO o1
  | [], n, o, e => by simp [symH, get] at e
  | (m, x) :: r, n, o, e => by
    simp only [symH, get] at e ⊢
    split at e
    · cases e; exact ⟨x, rfl, rfl⟩
    · exact symH_get' r n o e

theorem loc_sym {P : Program} {f : FuncId} {la : List AV} {lh : List (Nat × AO)} {R : LR} (h : LocOk P f la lh R) : LocOk P f (symL la) (symH lh) R := by
  intro ρ w hob hr hf hg xs hx
  have hr' : HeapRep P ρ lh w := by
    refine ⟨fun n o e => ?_, fun n m o o' l l' e e' hne hro => ?_⟩
    · obtain ⟨l, hl, ho⟩ := hr.1 n _ (symH_get _ _ _ e)
      exact ⟨l, hl, symO_rep ho⟩
    · exact hr.2 n m _ _ l l' (symH_get _ _ _ e) (symH_get _ _ _ e') hne (by rw [symO_ro, symO_ro]; exact hro)
  refine (h ρ w hob hr' hf hg xs (by rw [← symL_den]; exact hx)).mono fun e w' ⟨x, ρ', he, hv, st⟩ => ⟨x, ρ', he, hv, ?_⟩
  refine ⟨st.le, st.new, st.rep, st.fr.mono ?_, fun n o l h1 h2 h3 h4 => ?_⟩
  · rintro b ⟨m, hm, o, l, e1, e2, e3⟩
    exact ⟨m, hm, _, l, symH_get _ _ _ e1, by rw [symO_ro]; exact e2, e3⟩
  · obtain ⟨m, o', l', e1, e2, e3⟩ := st.own n o l h1 h2 h3 h4
    exact ⟨m, _, l', symH_get _ _ _ e1, by rw [symO_ro]; exact e2, e3⟩
theorem symL_get' : ∀ (l : List AV) (j : Nat) v, (symL l)[j]? = some v → ∃ u, l[j]? = some u ∧ v = symV u
  | [], j, v, h => by simp [symL] at h
  | a :: r, 0, v, h => by simp [symL] at h; exact ⟨a, by simp, h.symm⟩
  | a :: r, j + 1, v, h => by simp [symL] at h; obtain ⟨u, hu, e⟩ := symL_get' r j v h; exact ⟨u, by simpa using hu, e⟩
theorem symO_rep' {P : Program} {ρ : Ren} {w : World} {l : Loc} {o : AO} (h : ObjRep P ρ w l o) : ObjRep P ρ w l (symO o) := by
  cases o with
  | cells wd cs =>
    obtain ⟨h0, h1, h2, c, t, fr, hb, hf, hc, hc2, hv⟩ := h
    refine ⟨h0, h1, h2, c, t, fr, hb, hf, by rw [symL_length]; exact hc, hc2, fun j v hj => ?_⟩
    obtain ⟨u, hu, rfl⟩ := symL_get' cs j v hj
    obtain ⟨x, hx, hr⟩ := hv j u hu
    refine ⟨x, hx, ?_⟩
    rcases hr with hr | hr
    · subst hr; exact .inl rfl
    · exact .inr (by rw [symV_den]; exact hr)
  | arr wd sh ro len f => exact h
  | map t f => exact h
  | mapP t f n k => exact h
def symR (R : LR) : LR := ⟨R.k, R.v, symH R.heap, R.n, R.wr, R.ob⟩
theorem loc_symR {P : Program} {f : FuncId} {la : List AV} {lh : List (Nat × AO)} {R : LR} (h : LocOk P f la lh R) : LocOk P f (symL la) (symH lh) (symR R) := by
  intro ρ w hob hr hf hg xs hx
  refine (loc_sym h ρ w hob hr hf hg xs hx).mono fun e w' ⟨x, ρ', he, hv, st⟩ => ⟨x, ρ', he, hv, ?_⟩
  refine ⟨st.le, st.new, ⟨fun n o e => ?_, fun n m o o' l l' e e' hne hro => ?_⟩, st.fr, fun n o l h1 h2 h3 h4 => ?_⟩
  · obtain ⟨o1, h1, rfl⟩ := symH_get' _ _ _ e
    obtain ⟨l, hl, ho⟩ := st.rep.1 n o1 h1
    exact ⟨l, hl, symO_rep' ho⟩
  · obtain ⟨o1, h1, rfl⟩ := symH_get' _ _ _ e
    obtain ⟨o2, h2, rfl⟩ := symH_get' _ _ _ e'
    rw [symO_ro, symO_ro] at hro
    exact st.rep.2 n m o1 o2 l l' h1 h2 hne hro
  · obtain ⟨o1, g1, rfl⟩ := symH_get' _ _ _ h1
    obtain ⟨m, o', l', e1, e2, e3⟩ := st.own n o1 l g1 h2 h3 h4
    exact ⟨m, o', l', e1, by rw [symO_ro]; exact e2, e3⟩
/-- .. where the answer is written otherwise. -/
theorem loc_fit {P : Program} {f : FuncId} {la : List AV} {lh : List (Nat × AO)} {R R' : LR} (h : LocOk P f la lh R) (ho : ∀ p ∈ R.ob, p) (e : R' = ⟨R.k, R.v, R.heap, R.n, R.wr, R'.ob⟩) : LocOk P f la lh R' := by
  rw [e]
  intro ρ w _ hr hf hg xs hx
  exact h ρ w ho hr hf hg xs hx
/-- .. as an equation shows it. -/
theorem loc_sym' {P : Program} {f : FuncId} {la la' : List AV} {lh lh' : List (Nat × AO)} {R R' : LR} (h : LocOk P f la lh R) (e1 : symL la = la') (e2 : symH lh = lh') (e3 : R = R') : LocOk P f la' lh' R' := by
  subst e1; subst e2; subst e3; exact loc_sym h
end Go.Ev

/-
  Numbers: masks, shifts, or.
-/
set_option linter.unusedSimpArgs false
set_option linter.unusedVariables false
namespace Go.Ev
theorem and_mask (k : Nat) (hk : k ≤ 64) {x : Int} (h : 0 ≤ x) (h1 : x < 18446744073709551616) : ((BitVec.ofInt 64 x &&& BitVec.ofInt 64 (2 ^ k - 1)).toNat : Int) = x % 2 ^ k := by
  have hx : (x % ((2 ^ 64 : Nat) : Int)).toNat = x.toNat := by
    have : x % ((2 ^ 64 : Nat) : Int) = x := Int.emod_eq_of_lt h (by simpa using h1)
    rw [this]
  have hp : (2 : Nat) ^ k ≤ 2 ^ 64 := Nat.pow_le_pow_right (by decide) hk
  have hp0 : 0 < (2 : Nat) ^ k := Nat.pow_pos (by decide)
  have e2 : ((2 : Int) ^ k - 1) = ((2 ^ k - 1 : Nat) : Int) := by
    rw [Int.ofNat_sub hp0]; simp
  have hm : (((2 : Int) ^ k - 1) % ((2 ^ 64 : Nat) : Int)).toNat = 2 ^ k - 1 := by
    rw [e2, Int.emod_eq_of_lt (by omega) (by omega)]
    simp
  rw [BitVec.toNat_and, BitVec.toNat_ofInt, BitVec.toNat_ofInt, hx, hm, Nat.and_two_pow_sub_one_eq_mod]
  have : (x.toNat : Int) = x := Int.toNat_of_nonneg h
  rw [Int.natCast_emod, this]
  simp
theorem or_shift (k : Nat) (hk : k ≤ 64) {x y : Int} (hx : 0 ≤ x) (hx1 : x < 2 ^ k) (hy : 0 ≤ y) (hy1 : y * 2 ^ k < 18446744073709551616) : ((BitVec.ofInt 64 x ||| BitVec.ofInt 64 (y * 2 ^ k)).toNat : Int) = x + y * 2 ^ k := by
  have hp : (2 : Int) ^ k ≤ 18446744073709551616 := by
    have := Nat.pow_le_pow_right (n := 2) (by decide) hk
    have h2 : ((2 ^ k : Nat) : Int) ≤ ((2 ^ 64 : Nat) : Int) := by exact_mod_cast this
    simpa using h2
  have e1 : (x % ((2 ^ 64 : Nat) : Int)).toNat = x.toNat := by
    have : x % ((2 ^ 64 : Nat) : Int) = x := Int.emod_eq_of_lt hx (by simp; omega)
    rw [this]
  have hpos : (0 : Int) ≤ y * 2 ^ k := Int.mul_nonneg hy (Int.pow_nonneg (by decide))
  have e2 : ((y * 2 ^ k) % ((2 ^ 64 : Nat) : Int)).toNat = y.toNat * 2 ^ k := by
    have : (y * 2 ^ k) % ((2 ^ 64 : Nat) : Int) = y * 2 ^ k := Int.emod_eq_of_lt hpos (by simpa using hy1)
    rw [this]
    obtain ⟨n, rfl⟩ := Int.eq_ofNat_of_zero_le hy
    simp only [Int.ofNat_eq_natCast, Int.toNat_natCast]
    have : ((n : Int) * 2 ^ k) = ((n * 2 ^ k : Nat) : Int) := by simp
    rw [this, Int.toNat_natCast]
  have hxn : x.toNat < 2 ^ k := by
    have : ((x.toNat : Nat) : Int) < ((2 ^ k : Nat) : Int) := by rw [Int.toNat_of_nonneg hx]; simpa using hx1
    exact_mod_cast this
  rw [BitVec.toNat_or, BitVec.toNat_ofInt, BitVec.toNat_ofInt, e1, e2, Nat.or_comm, Nat.mul_comm, ← Nat.two_pow_add_eq_or_of_lt hxn]
  have h1 : (x.toNat : Int) = x := Int.toNat_of_nonneg hx
  have h2 : (y.toNat : Int) = y := Int.toNat_of_nonneg hy
  simp only [Int.natCast_add, Int.natCast_mul, Int.natCast_pow, h1, h2]
  rw [Int.add_comm, Int.mul_comm]; rfl
theorem shr_div (k : Nat) (hk : k ≤ 64) {x : Int} : x.fdiv (2 ^ (min (k : Int).toNat 64)) = x / 2 ^ k := by
  have : min (k : Int).toNat 64 = k := by simp; exact Nat.min_eq_left hk
  rw [this]
  exact Int.fdiv_eq_ediv_of_nonneg x (Int.pow_nonneg (by decide))
theorem and_1 {x : Int} (h : 0 ≤ x) (h1 : x < 18446744073709551616) : ((BitVec.ofInt 64 x &&& BitVec.ofInt 64 1).toNat : Int) = x % 2 := by simpa using and_mask 1 (by decide) h h1
theorem and_7 {x : Int} (h : 0 ≤ x) (h1 : x < 18446744073709551616) : ((BitVec.ofInt 64 x &&& BitVec.ofInt 64 7).toNat : Int) = x % 8 := by simpa using and_mask 3 (by decide) h h1
theorem and_16 {x : Int} (h : 0 ≤ x) (h1 : x < 18446744073709551616) : ((BitVec.ofInt 64 x &&& BitVec.ofInt 64 65535).toNat : Int) = x % 65536 := by simpa using and_mask 16 (by decide) h h1
theorem and_32 {x : Int} (h : 0 ≤ x) (h1 : x < 18446744073709551616) : ((BitVec.ofInt 64 x &&& BitVec.ofInt 64 4294967295).toNat : Int) = x % 4294967296 := by simpa using and_mask 32 (by decide) h h1
theorem and_48 {x : Int} (h : 0 ≤ x) (h1 : x < 18446744073709551616) : ((BitVec.ofInt 64 x &&& BitVec.ofInt 64 281474976710655).toNat : Int) = x % 281474976710656 := by simpa using and_mask 48 (by decide) h h1
theorem or_8 {x y : Int} (hx : 0 ≤ x) (hx1 : x < 8) (hy : 0 ≤ y) (hy1 : y < 1000000000000000000) : ((BitVec.ofInt 64 x ||| BitVec.ofInt 64 (y * 8)).toNat : Int) = x + y * 8 := by simpa using or_shift 3 (by decide) hx (by simpa using hx1) hy (by simp; omega)
theorem or_16 {x y : Int} (hx : 0 ≤ x) (hx1 : x < 65536) (hy : 0 ≤ y) (hy1 : y < 281474976710656) : ((BitVec.ofInt 64 x ||| BitVec.ofInt 64 (y * 65536)).toNat : Int) = x + y * 65536 := by simpa using or_shift 16 (by decide) hx (by simpa using hx1) hy (by simp; omega)
theorem or_0 {y : Int} (hy : 0 ≤ y) (hy1 : y < 18446744073709551616) : ((BitVec.ofInt 64 0 ||| BitVec.ofInt 64 y).toNat : Int) = y := by
  have := or_shift 0 (x := 0) (y := y) (by decide) (by decide) (by decide) hy (by simpa using hy1)
  simpa using this
theorem u16m (x : Int) : IntKind.u16.wrap x = x % 65536 := by
  simp [IntKind.wrap, IntKind.signed, IntKind.bits]
theorem u32m (x : Int) : IntKind.u32.wrap x = x % 4294967296 := by
  simp [IntKind.wrap, IntKind.signed, IntKind.bits]
/-! words -/
def hSlot (w : Int) : Int := if 1 ≤ w % 65536 ∧ w % 65536 ≤ 256 then w % 65536 - 1 else -1
def hTag (w : Int) : Int := w / 65536
def hHead (s t : Int) : Int := (if 0 ≤ s ∧ s < 256 then s + 1 else 0) + t % 281474976710656 * 65536
def hdrS (w : Int) : Int := if 4 < w % 8 then 4 else w % 8
def hdrG (w : Int) : Int := w / 8 % 4294967296
def hdr (s g : Int) : Int := (if 4 < s then 4 else s) + g * 8
theorem slot_raw {w : Int} (h0 : 0 ≤ w) (h1 : w < 18446744073709551616) : IntKind.i64.wrap (IntKind.i64.wrap (IntKind.u16.wrap (IntKind.u64.wrap ↑(BitVec.ofInt 64 (w.fdiv 1) &&& BitVec.ofInt 64 65535).toNat)) - 1) = w % 65536 - 1 := by
  rw [Int.fdiv_eq_ediv_of_nonneg w (by decide), Int.ediv_one, and_16 h0 h1, u64w (by omega) (by omega), u16m, i64w (x := w % 65536 % 65536) (by omega) (by omega), i64w (by omega) (by omega)]
  omega
theorem tag_raw {w : Int} (h0 : 0 ≤ w) (h1 : w < 18446744073709551616) : IntKind.u64.wrap ↑(BitVec.ofInt 64 (w.fdiv 65536) &&& BitVec.ofInt 64 281474976710655).toNat = hTag w := by
  rw [Int.fdiv_eq_ediv_of_nonneg w (by decide), and_48 (by omega) (by omega), u64w (by omega) (by omega)]
  unfold hTag; omega
theorem head_raw {a t : Int} (a0 : 0 ≤ a) (a1 : a ≤ 256) (h0 : 0 ≤ t) (h1 : t < 18446744073709551616) : IntKind.u64.wrap ↑(BitVec.ofInt 64 a ||| BitVec.ofInt 64 (IntKind.u64.wrap (IntKind.u64.wrap ↑(BitVec.ofInt 64 t &&& BitVec.ofInt 64 281474976710655).toNat * 65536))).toNat = a + t % 281474976710656 * 65536 := by
  rw [and_48 h0 h1, u64w (x := t % 281474976710656) (by omega) (by omega), u64w (x := t % 281474976710656 * 65536) (by omega) (by omega), or_16 a0 (by omega) (by omega) (by omega), u64w (by omega) (by omega)]
theorem hdrS_raw {w : Int} (h0 : 0 ≤ w) (h1 : w < 18446744073709551616) : IntKind.u8.wrap (IntKind.u64.wrap ↑(BitVec.ofInt 64 (w.fdiv 1) &&& BitVec.ofInt 64 7).toNat) = w % 8 := by
  rw [Int.fdiv_eq_ediv_of_nonneg w (by decide), Int.ediv_one, and_7 h0 h1, u64w (by omega) (by omega), u8m]; omega
theorem hdrG_raw {w : Int} (h0 : 0 ≤ w) (h1 : w < 18446744073709551616) : IntKind.u32.wrap (IntKind.u64.wrap ↑(BitVec.ofInt 64 (w.fdiv 8) &&& BitVec.ofInt 64 4294967295).toNat) = hdrG w := by
  rw [Int.fdiv_eq_ediv_of_nonneg w (by decide), and_32 (by omega) (by omega), u64w (by omega) (by omega), u32m]
  unfold hdrG; omega
theorem hdr_raw {s t : Int} (s0 : 0 ≤ s) (s1 : s < 256) (h0 : 0 ≤ t) (h1 : t < 4294967296) : IntKind.u64.wrap ↑(BitVec.ofInt 64 (IntKind.u64.wrap ↑(BitVec.ofInt 64 0 ||| BitVec.ofInt 64 (IntKind.u64.wrap (IntKind.u64.wrap ↑(BitVec.ofInt 64 (IntKind.u64.wrap (if 4 < s then 4 else s)) &&& BitVec.ofInt 64 7).toNat * 1))).toNat) ||| BitVec.ofInt 64 (IntKind.u64.wrap (IntKind.u64.wrap ↑(BitVec.ofInt 64 (IntKind.u64.wrap t) &&& BitVec.ofInt 64 4294967295).toNat * 8))).toNat = hdr s t := by
  have hs : 0 ≤ (if 4 < s then 4 else s) ∧ (if 4 < s then 4 else s) ≤ 4 := by split <;> omega
  generalize hq : (if 4 < s then (4 : Int) else s) = q at *
  rw [u64w (x := q) (by omega) (by omega), u64w (x := t) h0 (by omega), and_7 hs.1 (by omega), and_32 h0 (by omega), Int.mul_one,
    u64w (x := q % 8) (by omega) (by omega), u64w (x := q % 8) (by omega) (by omega), or_0 (by omega) (by omega), u64w (x := q % 8) (by omega) (by omega),
    u64w (x := t % 4294967296) (by omega) (by omega), u64w (x := t % 4294967296 * 8) (by omega) (by omega), or_8 (by omega) (by omega) (by omega) (by omega), u64w (by omega) (by omega)]
  unfold hdr; rw [hq]; omega
end Go.Ev
