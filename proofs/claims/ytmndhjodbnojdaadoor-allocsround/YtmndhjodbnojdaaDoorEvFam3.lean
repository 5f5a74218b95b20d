/-
  EvFam3 and what follows it.
-/
import Derived.Test.YtmndhjodbnojdaaDoorEvFam
import Derived.Test.YtmndhjodbnojdaaDoorEvUse
/-
  A loop by an invariant over a family: rounds out of evaluations that end in a cast; rows of the array.
-/
set_option linter.unusedSimpArgs false
set_option linter.unusedVariables false
namespace Go.Ev

theorem fam_norm {E : Env} {c : Code} {F : Fam} {s0 : St} {e0 : Ex} {s1 : St} {X : Type} {T : X → FSt} {μ : X → Nat} {ok : X → Prop} {x : X} (y : X) (j : Nat) (wth wth' : Bool) {mb mb' : Mb} {fuel : Nat} {m : List (Nat × Src)} {hints : List Hint} {ob : List Prop}
    (h : roundB E fuel c (h0F F s0) m (locSt F (T x) wth mb j []) hints (locSt F (T y) wth' mb' j []) = some (.norm, ob)) (ho : ∀ p ∈ ob, p)
    (hj : wth = true → j < (T x).n) (hm : (T x).M j = mb) (hy : ok y) (hμ : μ y < μ x) (hm' : (T y).M j = mb') (hw : (wth' = true ∧ j < (T y).n) ∨ (wth' = false ∧ (T y).n ≤ j))
    (same : ∀ i, i < (T y).n → i ≠ j → i < (T x).n ∧ (T y).M i = (T x).M i) : FamRound E c F s0 e0 s1 T μ ok x := by
  obtain ⟨s', h1, h2, ob', h3, h4⟩ := roundB_spec h ho
  exact ⟨j, wth, mb, fuel, hints, .norm, s', hj, hm, h1, h2, .inl ⟨rfl, y, wth', mb', m, ob', hy, hμ, hm', hw, same, h3, h4⟩⟩

theorem fam_exit {E : Env} {c : Code} {F : Fam} {s0 : St} {e0 : Ex} {s1 : St} {X : Type} {T : X → FSt} {μ : X → Nat} {ok : X → Prop} {x : X} (j : Nat) (wth : Bool) {mb : Mb} {fuel : Nat} {m : List (Nat × Src)} {hints : List Hint} {ob : List Prop}
    (h : roundB E fuel c s0.hp m (locSt F (T x) wth mb j []) hints s1 = some (e0, ob)) (hne : e0 ≠ .norm) (ho : ∀ p ∈ ob, p)
    (hj : wth = true → j < (T x).n) (hm : (T x).M j = mb) : FamRound E c F s0 e0 s1 T μ ok x := by
  obtain ⟨s', h1, h2, ob', h3, h4⟩ := roundB_spec h ho
  exact ⟨j, wth, mb, fuel, hints, e0, s', hj, hm, h1, h2, .inr ⟨rfl, hne, m, ob', h3, h4⟩⟩

/-! ### rows of a family's array -/
theorem valV_ptr {c : CM} {n k i j : Nat} (h : c.same n k = true) : valV c (.ptr k i j) (.ptr n i j) := ⟨rfl, fun ρ x hx => by
  simp only [den] at hx ⊢
  rw [CM.same_ren h]; exact hx⟩
theorem valV_nilp {c : CM} : valV c .nilp .nilp := ⟨rfl, fun ρ x hx => hx⟩
theorem valV_eq {c : CM} {s s' t : AV} (e : s = s') (h : valV c s' t) : valV c s t := by rw [e]; exact h

/-- Another member's cell: its names lie beyond what a cast gives out. -/
theorem valV_far {c : CM} {F : Fam} {mb : Mb} (hm : MbOk F mb) {b : Nat} (hb : ∀ k, k < F.q → c.fresh (b + k) = false) {cc : Nat} {k : CK} (hk : F.sh[cc]? = some k) : valV c (mrow F.q b mb cc) (mrow F.q b mb cc) := by
  have hkd := mrow_kind hm hk b
  refine ⟨?_, fun ρ x hx => ?_⟩
  · cases k with
    | int k => obtain ⟨n, h | h⟩ := hkd <;> rw [h] <;> rfl
    | bool => obtain ⟨n, h | h⟩ := hkd <;> rw [h] <;> rfl
    | val => exact hkd
  · have := mrow_den hm (ρ := ρ) (ρ' := c.ren ρ) (b := b) (b' := b) (fun n hn => by simp [CM.ren, hb n hn]) hk
    rw [this]; exact hx

theorem rowV_of {c : CM} {f g : Nat → AV} : ∀ (sh : List CK) (j0 : Nat), (∀ (j : Nat) k, sh[j]? = some k → k = .val ∧ valV c (f (j0 + j)) (g (j0 + j))) → rowV c sh j0 f g
  | [], _, _ => trivial
  | k :: r, j0, h => by
    obtain ⟨rfl, h0⟩ := h 0 k rfl
    refine ⟨h0, rowV_of r (j0 + 1) (fun j k hk => ?_)⟩
    have := h (j + 1) k (by simpa using hk)
    rwa [show j0 + (j + 1) = j0 + 1 + j by omega] at this

/-- The rows of a family whose cells are pointers all: all rows but j's are as they were. -/
theorem fam_rows {c : CM} {F : Fam} (hv : ∀ (j : Nat) k, F.sh[j]? = some k → k = .val) (hf : c.hi ≤ F.b0) {M M' : Nat → Mb} {n n' j : Nat} {src : Nat → Nat → AV}
    (hM : ∀ i, i < n' → i ≠ j → MbOk F (M i) ∧ M' i = M i ∧ ∀ cc, src i cc = mrow F.q (F.b0 + F.q * i) (M i) cc)
    (hj : j < n' → ∀ (cc : Nat) k, F.sh[cc]? = some k → valV c (src j cc) (mrow F.q 900 (M' j) cc)) : ∀ i, i < n' → rowV c F.sh 0 (src i) (lrow F.b0 F.q M' j i) := by
  intro i hi
  refine rowV_of F.sh 0 (fun cc k hk => ⟨hv cc k hk, ?_⟩)
  rw [Nat.zero_add]
  by_cases e : i = j
  · subst e
    simp only [lrow, if_true]
    exact hj hi cc k hk
  · obtain ⟨h1, h2, h3⟩ := hM i hi e
    simp only [lrow, e, if_false]
    rw [h3 cc, h2]
    refine valV_far h1 (fun k hk => ?_) hk
    cases hfr : c.fresh (F.b0 + F.q * i + k) with
    | false => rfl
    | true => have := (CM.fresh_iff.1 hfr).2; omega
theorem lrow_j {b0 q : Nat} {M : Nat → Mb} {j c : Nat} {mb : Mb} (h : M j = mb) : lrow b0 q M j j c = mrow q 900 mb c := by simp [lrow, h]
theorem lrow_ne {b0 q : Nat} {M : Nat → Mb} {j i c : Nat} (h : i ≠ j) : lrow b0 q M j i c = mrow q (b0 + q * i) (M i) c := by simp [lrow, h]

end Go.Ev

/-
  The words of a memory, in order: plain definitions and facts.
-/
set_option linter.unusedSimpArgs false
set_option linter.unusedVariables false
namespace Go.Ev

abbrev K3 := Int × Int × Int
/-- Does a key stand ahead of another one? -/
def ltK (x y : K3) : Prop := x.1 < y.1 ∨ x.1 = y.1 ∧ (x.2.1 < y.2.1 ∨ x.2.1 = y.2.1 ∧ x.2.2 < y.2.2)
theorem ltK_irrefl (x : K3) : ¬ ltK x x := by unfold ltK; omega
theorem ltK_trans {x y z : K3} (h1 : ltK x y) (h2 : ltK y z) : ltK x z := by unfold ltK at *; omega
theorem ltK_total {x y : K3} (h1 : ¬ ltK x y) (h2 : ¬ ltK y x) : x = y := by
  unfold ltK at h1 h2
  exact Prod.ext (by omega) (Prod.ext (by omega) (by omega))

/-- A list is the words of f, in order. -/
structure IsWl (f : List Int → Option Int) (l : List (K3 × Int)) : Prop where
  sorted : l.Pairwise (fun x y => ltK x.1 y.1)
  mem : ∀ k v, (k, v) ∈ l ↔ mget f (key k.1 k.2.1 k.2.2) = v ∧ v ≠ 0

theorem sorted_eq : ∀ (l m : List (K3 × Int)), l.Pairwise (fun x y => ltK x.1 y.1) → m.Pairwise (fun x y => ltK x.1 y.1) → (∀ x, x ∈ l ↔ x ∈ m) → l = m
  | [], [], _, _, _ => rfl
  | [], y :: m, _, _, h => by have := (h y).2 (List.mem_cons_self ..); cases this
  | x :: l, [], _, _, h => by have := (h x).1 (List.mem_cons_self ..); cases this
  | x :: l, y :: m, hl, hm, h => by
    obtain ⟨a1, a2⟩ := List.pairwise_cons.1 hl
    obtain ⟨b1, b2⟩ := List.pairwise_cons.1 hm
    have exy : x = y := by
      rcases List.mem_cons.1 ((h x).1 (List.mem_cons_self ..)) with e | e
      · exact e
      · rcases List.mem_cons.1 ((h y).2 (List.mem_cons_self ..)) with e2 | e2
        · exact e2.symm
        · exact (ltK_irrefl _ (ltK_trans (a1 y e2) (b1 x e))).elim
    subst exy
    rw [sorted_eq l m a2 b2 (fun z => ?_)]
    constructor
    · intro hz
      rcases List.mem_cons.1 ((h z).1 (List.mem_cons_of_mem _ hz)) with e | e
      · subst e; exact (ltK_irrefl _ (a1 z hz)).elim
      · exact e
    · intro hz
      rcases List.mem_cons.1 ((h z).2 (List.mem_cons_of_mem _ hz)) with e | e
      · subst e; exact (ltK_irrefl _ (b1 z hz)).elim
      · exact e
theorem IsWl.unique {f : List Int → Option Int} {l m : List (K3 × Int)} (h : IsWl f l) (h' : IsWl f m) : l = m :=
  sorted_eq l m h.sorted h'.sorted (fun ⟨k, v⟩ => (h.mem k v).trans (h'.mem k v).symm)
theorem IsWl.congr {f g : List Int → Option Int} {l : List (K3 × Int)} (h : IsWl f l) (e : ∀ k a b, mget g (key k a b) = mget f (key k a b)) : IsWl g l := ⟨h.sorted, fun k v => by rw [e]; exact h.mem k v⟩

open Classical in
/-- The words of f, in order. -/
noncomputable def wlF (f : List Int → Option Int) : List (K3 × Int) := if h : ∃ l, IsWl f l then Classical.choose h else []
theorem wlF_eq {f : List Int → Option Int} {l : List (K3 × Int)} (h : IsWl f l) : wlF f = l := by
  have hex : ∃ l, IsWl f l := ⟨l, h⟩
  unfold wlF
  rw [dif_pos hex]
  exact (Classical.choose_spec hex).unique h

def wdAt (l : List (K3 × Int)) (i : Nat) : Wd := match l[i]? with
  | some x => ⟨x.1.1, x.1.2.1, x.1.2.2, x.2⟩
  | none => ⟨0, 0, 0, 0⟩

/-- It has no more than so many entries. -/
def FinM (f : List Int → Option Int) (n : Nat) : Prop := ∃ l : List (List Int), l.length ≤ n ∧ ∀ k v, f k = some v → k ∈ l
theorem FinM.nil (n : Nat) : FinM (fun _ => none) n := ⟨[], Nat.zero_le _, fun k v h => by cases h⟩
theorem FinM.mono {f : List Int → Option Int} {n m : Nat} (h : FinM f n) (hm : n ≤ m) : FinM f m := let ⟨l, h1, h2⟩ := h; ⟨l, Nat.le_trans h1 hm, h2⟩
theorem FinM.set {f : List Int → Option Int} {n : Nat} (h : FinM f n) (k : List Int) (v : Option Int) : FinM (setKey f k v) (n + 1) := by
  obtain ⟨l, h1, h2⟩ := h
  refine ⟨k :: l, by simp; omega, fun q u hq => ?_⟩
  unfold setKey at hq
  split at hq
  · rename_i e; subst e; exact List.mem_cons_self ..
  · exact List.mem_cons_of_mem _ (h2 q u hq)
theorem FinM.put {f : List Int → Option Int} {n : Nat} (h : FinM f n) (k a b v : Int) : FinM (memPut f k a b v) (n + 1) := by
  unfold memPut
  split
  · exact h.set _ _
  · exact h.mono (by omega)
theorem FinM.cas {f : List Int → Option Int} {n : Nat} (h : FinM f n) (k a b w v : Int) : FinM (casM f k a b w v) (n + 1) := by
  unfold casM
  split
  · exact h.set _ _
  · exact h.mono (by omega)

theorem nodup_len : ∀ (a b : List (List Int)), a.Nodup → (∀ x ∈ a, x ∈ b) → a.length ≤ b.length
  | [], b, _, _ => Nat.zero_le _
  | x :: r, b, hn, hs => by
    obtain ⟨h1, h2⟩ := List.nodup_cons.1 hn
    have hx := hs x (List.mem_cons_self ..)
    have := nodup_len r (b.erase x) h2 (fun y hy => (List.mem_erase_of_ne (fun e => h1 (by rw [← e]; exact hy))).2 (hs y (List.mem_cons_of_mem _ hy)))
    rw [List.length_erase_of_mem hx] at this
    have : 0 < b.length := List.length_pos_of_mem hx
    simp; omega
end Go.Ev

/-
  The document's words in order: plain definitions and facts.
-/
set_option linter.unusedSimpArgs false
set_option linter.unusedVariables false
namespace Go.Ev

instance ltK_dec (x y : K3) : Decidable (ltK x y) := by unfold ltK; infer_instance
def ltB (x y : K3) : Bool := decide (ltK x y)
def Wd.key (w : Wd) : K3 := (w.k, w.a, w.f)
def Wd.kv (w : Wd) : K3 × Int := (w.key, w.v)

/-- Where x goes. -/
def posL (x : K3) : List (K3 × Int) → Nat
  | [] => 0
  | y :: r => if ltB y.1 x = true then posL x r + 1 else 0
def insL (x : K3 × Int) : List (K3 × Int) → List (K3 × Int)
  | [] => [x]
  | y :: r => if ltB y.1 x.1 = true then y :: insL x r else x :: y :: r

theorem posL_le (x : K3) : ∀ l, posL x l ≤ l.length
  | [] => Nat.le_refl _
  | y :: r => by
    have := posL_le x r
    simp only [posL]
    split <;> simp <;> omega
theorem insL_len (x : K3 × Int) : ∀ l, (insL x l).length = l.length + 1
  | [] => rfl
  | y :: r => by
    simp only [insL]
    split
    · simp [insL_len x r]
    · simp
theorem posL_cons (x : K3) (y : K3 × Int) (r : List (K3 × Int)) : posL x (y :: r) = if ltB y.1 x = true then posL x r + 1 else 0 := rfl
theorem insL_cons (x y : K3 × Int) (r : List (K3 × Int)) : insL x (y :: r) = if ltB y.1 x.1 = true then y :: insL x r else x :: y :: r := rfl
theorem insL_get (x : K3 × Int) : ∀ (l : List (K3 × Int)) (i : Nat), (insL x l)[i]? = if i < posL x.1 l then l[i]? else if i = posL x.1 l then some x else l[i - 1]?
  | [], i => by
    cases i <;> simp [insL, posL]
  | y :: r, i => by
    by_cases h : ltB y.1 x.1 = true
    · have e1 : posL x.1 (y :: r) = posL x.1 r + 1 := by rw [posL_cons, if_pos h]
      have e2 : insL x (y :: r) = y :: insL x r := by rw [insL_cons, if_pos h]
      simp only [e1, e2]
      cases i with
      | zero => simp
      | succ i =>
        rw [List.getElem?_cons_succ, insL_get x r i]
        by_cases h1 : i < posL x.1 r
        · have h1' : i + 1 < posL x.1 r + 1 := by omega
          simp [h1, h1']
        · have h1' : ¬ i + 1 < posL x.1 r + 1 := by omega
          by_cases h2 : i = posL x.1 r
          · simp [h2]
          · have h2' : ¬ i + 1 = posL x.1 r + 1 := by omega
            obtain ⟨k, rfl⟩ : ∃ k, i = k + 1 := ⟨i - 1, by omega⟩
            simp [h1, h1', h2, h2']
    · have e1 : posL x.1 (y :: r) = 0 := by rw [posL_cons, if_neg h]
      have e2 : insL x (y :: r) = x :: y :: r := by rw [insL_cons, if_neg h]
      simp only [e1, e2]
      cases i with
      | zero => simp
      | succ i => simp
theorem posL_lt {x : K3} : ∀ {l : List (K3 × Int)} {i : Nat}, i < posL x l → ∃ y, l[i]? = some y ∧ ltB y.1 x = true
  | [], i, h => by simp [posL] at h
  | y :: r, i, h => by
    rw [posL_cons] at h
    by_cases hy : ltB y.1 x = true
    · rw [if_pos hy] at h
      cases i with
      | zero => exact ⟨y, by simp, hy⟩
      | succ i => obtain ⟨z, h1, h2⟩ := posL_lt (x := x) (l := r) (i := i) (by omega); exact ⟨z, by simpa using h1, h2⟩
    · rw [if_neg hy] at h; omega
theorem posL_at {x : K3} : ∀ {l : List (K3 × Int)} {y}, l[posL x l]? = some y → ltB y.1 x = false
  | [], y, h => by simp at h
  | z :: r, y, h => by
    rw [posL_cons] at h
    by_cases hy : ltB z.1 x = true
    · rw [if_pos hy, List.getElem?_cons_succ] at h
      exact posL_at h
    · rw [if_neg hy] at h
      simp at h; subst h; simpa using hy

theorem insL_mem (x : K3 × Int) : ∀ l y, y ∈ insL x l ↔ y = x ∨ y ∈ l
  | [], y => by simp [insL]
  | z :: r, y => by
    simp only [insL]
    split
    · simp only [List.mem_cons, insL_mem x r]
      constructor
      · rintro (h | h | h) <;> simp [h]
      · rintro (h | h | h) <;> simp [h]
    · simp
theorem insL_sorted (x : K3 × Int) : ∀ l, l.Pairwise (fun a b => ltK a.1 b.1) → (∀ y ∈ l, y.1 ≠ x.1) → (insL x l).Pairwise (fun a b => ltK a.1 b.1)
  | [], _, _ => by simp [insL]
  | z :: r, h, hn => by
    obtain ⟨h1, h2⟩ := List.pairwise_cons.1 h
    simp only [insL]
    split
    · rename_i hz
      refine List.pairwise_cons.2 ⟨fun y hy => ?_, insL_sorted x r h2 (fun y hy => hn y (List.mem_cons_of_mem _ hy))⟩
      rcases (insL_mem x r y).1 hy with rfl | hy
      · exact of_decide_eq_true hz
      · exact h1 y hy
    · rename_i hz
      have hz : ¬ ltK z.1 x.1 := by simpa [ltB] using hz
      have hx : ltK x.1 z.1 := by
        by_cases e : ltK x.1 z.1
        · exact e
        · exact (hn z (List.mem_cons_self ..) (ltK_total hz e)).elim
      refine List.pairwise_cons.2 ⟨fun y hy => ?_, h⟩
      rcases List.mem_cons.1 hy with rfl | hy
      · exact hx
      · exact ltK_trans hx (h1 y hy)

/-- The first i words, those that are not 0, in order. -/
def rwl (D : DM) : Nat → List (K3 × Int)
  | 0 => []
  | i + 1 => if (D.W i).v = 0 then rwl D i else insL (D.W i).kv (rwl D i)
theorem rwl_len (D : DM) : ∀ i, (rwl D i).length ≤ i
  | 0 => Nat.le_refl _
  | i + 1 => by
    have := rwl_len D i
    simp only [rwl]
    split
    · omega
    · rw [insL_len]; omega
theorem rwl_mem (D : DM) : ∀ i y, y ∈ rwl D i ↔ ∃ j, j < i ∧ (D.W j).kv = y ∧ (D.W j).v ≠ 0
  | 0, y => by simp [rwl]
  | i + 1, y => by
    simp only [rwl]
    split
    · rename_i h0
      rw [rwl_mem D i]
      constructor
      · rintro ⟨j, h1, h2⟩; exact ⟨j, by omega, h2⟩
      · rintro ⟨j, h1, h2, h3⟩
        by_cases e : j = i
        · subst e; exact (h3 h0).elim
        · exact ⟨j, by omega, h2, h3⟩
    · rename_i h0
      rw [insL_mem, rwl_mem D i]
      constructor
      · rintro (rfl | ⟨j, h1, h2⟩)
        · exact ⟨i, by omega, rfl, h0⟩
        · exact ⟨j, by omega, h2⟩
      · rintro ⟨j, h1, h2, h3⟩
        by_cases e : j = i
        · subst e; exact .inl h2.symm
        · exact .inr ⟨j, by omega, h2, h3⟩

/-- No key stands there twice. -/
def DD (D : DM) : Prop := ∀ i j, i < D.n → j < D.n → (D.W i).key = (D.W j).key → i = j
theorem rwl_sorted {D : DM} (h : DD D) : ∀ i, i ≤ D.n → (rwl D i).Pairwise (fun a b => ltK a.1 b.1)
  | 0, _ => List.Pairwise.nil
  | i + 1, hi => by
    simp only [rwl]
    split
    · exact rwl_sorted h i (by omega)
    · refine insL_sorted _ _ (rwl_sorted h i (by omega)) (fun y hy e => ?_)
      obtain ⟨j, h1, rfl, _⟩ := (rwl_mem D i y).1 hy
      have := h j i (by omega) (by omega) e
      omega
theorem dWord_of {D : DM} (h : DD D) {j : Nat} (hj : j < D.n) : dWord D (D.W j).k (D.W j).a (D.W j).f = (D.W j).v := by
  rcases first_hit D (D.W j).k (D.W j).a (D.W j).f with q | ⟨i, q1, q2, q3⟩
  · have := q j hj
    rw [Nat.zero_add] at this
    rw [hit_iff.2 ⟨rfl, rfl, rfl⟩] at this; cases this
  · rw [dWord_at q1 q2 q3, Nat.zero_add]
    rw [Nat.zero_add] at q2
    obtain ⟨e1, e2, e3⟩ := hit_iff.1 q2
    have : i = j := h i j q1 hj (by simp [Wd.key, e1, e2, e3])
    rw [this]
theorem rwl_isWl {D : DM} {M : List Int → Option Int} (h : DD D) (a : Agr M D) : IsWl M (rwl D D.n) := by
  refine ⟨rwl_sorted h D.n (Nat.le_refl _), fun k v => ?_⟩
  rw [rwl_mem, a]
  obtain ⟨k1, k2, k3⟩ := k
  constructor
  · rintro ⟨j, hj, e, hv⟩
    simp only [Wd.kv, Wd.key, Prod.mk.injEq] at e
    obtain ⟨⟨e1, e2, e3⟩, e4⟩ := e
    subst e1; subst e2; subst e3; subst e4
    exact ⟨dWord_of h hj, hv⟩
  · rintro ⟨e, hv⟩
    rcases first_hit D k1 k2 k3 with q | ⟨i, q1, q2, q3⟩
    · rw [dWord_no q] at e; exact (hv e.symm).elim
    · rw [dWord_at q1 q2 q3, Nat.zero_add] at e
      rw [Nat.zero_add] at q2
      obtain ⟨e1, e2, e3⟩ := hit_iff.1 q2
      exact ⟨i, q1, by simp [Wd.kv, Wd.key, e1, e2, e3, e], by rw [e]; exact hv⟩
theorem wlF_rwl {D : DM} {M : List Int → Option Int} (h : DD D) (a : Agr M D) : wlF M = rwl D D.n := wlF_eq (rwl_isWl h a)

theorem DD.put {D : DM} (h : DD D) (k a f v : Int) : DD (dPut D k a f v) := by
  cases hm : mayA k a f with
  | false => rw [dPut_may hm]; exact h
  | true =>
    rcases first_hit D k a f with q | ⟨j, q1, q2, q3⟩
    · rw [dPut_no hm q]
      intro i i' hi hi' e
      simp only [dAdd] at hi hi' e
      have key : ∀ i, i < D.n → (D.W i).key ≠ (k, a, f) := fun i hi e => by
        have := q i hi
        rw [Nat.zero_add] at this
        simp only [Wd.key, Prod.mk.injEq] at e
        rw [hit_iff.2 e] at this; cases this
      by_cases h1 : i < D.n
      · by_cases h2 : i' < D.n
        · rw [if_pos h1, if_pos h2] at e; exact h i i' h1 h2 e
        · rw [if_pos h1, if_neg h2] at e; exact (key i h1 e).elim
      · by_cases h2 : i' < D.n
        · rw [if_neg h1, if_pos h2] at e; exact (key i' h2 e.symm).elim
        · omega
    · rw [dPut_at hm q1 q2 q3]
      intro i i' hi hi' e
      refine h i i' hi hi' ?_
      have : ∀ i, ((dSet D j v).W i).key = (D.W i).key := fun i => by
        simp only [dSet]
        split <;> rfl
      rwa [this, this] at e
theorem DD.cas {D : DM} (h : DD D) (k a f w v : Int) : DD (dCasM D k a f w v) := by
  unfold dCasM
  split
  · exact h.put k a f v
  · exact h
theorem DD.nil : DD ⟨0, fun _ => ⟨0, 0, 0, 0⟩⟩ := fun i j hi => absurd hi (Nat.not_lt_zero i)

/-- What the loop over all acts keeps. -/
structure Fine (S : MS) (R : RS) (n : Nat) : Prop where
  both : Both S R
  dd : DD R.D
  fin : FinM S.M n
  num : R.D.n ≤ n
theorem Fine.store {S : MS} {R : RS} {n : Nat} (h : Fine S R n) (k a f v : Int) : Fine (mStore S k a f v) (rStore R k a f v) (n + 1) :=
  ⟨h.both.store k a f v, h.dd.put k a f v, h.fin.put k a f v, by have := (dPut_n R.D k a f v).1; have := h.num; show (dPut R.D k a f v).n ≤ n + 1; omega⟩
theorem Fine.mono {S : MS} {R : RS} {n m : Nat} (h : Fine S R n) (hm : n ≤ m) : Fine S R m := ⟨h.both, h.dd, h.fin.mono hm, Nat.le_trans h.num hm⟩
theorem Fine.load {S : MS} {R : RS} {n : Nat} (h : Fine S R n) (k a f : Int) : Fine (mLoad S k a f) (rLoad R k a f) n := ⟨h.both.load k a f, h.dd, h.fin, h.num⟩
theorem dCasM_n (D : DM) (k a f w v : Int) : (dCasM D k a f w v).n ≤ D.n + 1 := by
  unfold dCasM
  split
  · exact (dPut_n D k a f v).1
  · omega
theorem Fine.cas {S : MS} {R : RS} {n : Nat} (h : Fine S R n) (k a f w v : Int) : Fine (mCas S k a f w v) (rCas R k a f w v) (n + 1) :=
  ⟨h.both.cas k a f w v, h.dd.cas k a f w v, h.fin.cas k a f w v, by have := dCasM_n R.D k a f w v; have := h.num; show (dCasM R.D k a f w v).n ≤ n + 1; omega⟩
theorem Fine.nil : Fine ms0 rs0 0 := ⟨Both.nil, DD.nil, FinM.nil 0, Nat.le_refl _⟩
theorem fineN (W : Nat → Wd) : ∀ n, Fine (msN W n) (rsN W n) n
  | 0 => Fine.nil
  | n + 1 => (fineN W n).store ..

/-- The document's memory out of its cells. -/
def mkR (n : Nat) (g : Nat → Nat → AV) (s2 : Int) (L2 : LS) : RS := ⟨dOf n g, s2, L2⟩
theorem mkR_self (R : RS) : mkR R.D.n (wdF R.D.W) R.st R.L = R := rfl

/-! ### rows -/
theorem rowsOf_w (k a f v : Int) : rowsOf 4 [.sym .u8 k, .sym .i64 a, .sym .i64 f, .sym .u64 v] 0 = wdR ⟨k, a, f, v⟩ := by
  funext j
  match j with
  | 0 => rfl
  | 1 => rfl
  | 2 => rfl
  | 3 => rfl
  | j + 4 => simp [rowsOf, nth, wdR]
end Go.Ev

/-
  Families of operations over both memories: what every '..Play' law needs, once.
  O: an operation's state; mb: its row and its blocks; a round adds one, stores a word, or takes a step of one.
-/
set_option linter.unusedSimpArgs false
set_option linter.unusedVariables false
namespace Go.Ev

/-! ### memories of u64 -/
def U64 (S : MS) : Prop := ∀ k, 0 ≤ mget S.M k ∧ mget S.M k < 18446744073709551616
theorem w64_r (e : Int) : 0 ≤ IntKind.u64.wrap e ∧ IntKind.u64.wrap e < 18446744073709551616 := by
  show 0 ≤ e % 18446744073709551616 ∧ e % 18446744073709551616 < 18446744073709551616
  omega
theorem mset_r {M : List Int → Option Int} {k : List Int} {v : Int} (h : ∀ k, 0 ≤ mget M k ∧ mget M k < 18446744073709551616) (hv : 0 ≤ v ∧ v < 18446744073709551616) : ∀ q, 0 ≤ mget (setKey M k (some v)) q ∧ mget (setKey M k (some v)) q < 18446744073709551616 := by
  intro q
  unfold mget setKey
  by_cases e : q = k
  · simp only [e, if_true]; exact hv
  · simp only [e, if_false]; exact h q
theorem U64.store {S : MS} (h : U64 S) (k a f v : Int) (hv : 0 ≤ v ∧ v < 18446744073709551616) : U64 (mStore S k a f v) := by
  unfold U64 mStore memPut
  cases mayA k a f with
  | true => exact mset_r h hv
  | false => exact h
theorem U64.cas {S : MS} (h : U64 S) (k a f w v : Int) (hv : 0 ≤ v ∧ v < 18446744073709551616) : U64 (mCas S k a f w v) := by
  unfold U64 mCas casM
  cases casD S.M k a f w with
  | true => exact mset_r h hv
  | false => exact h
theorem U64.load {S : MS} (h : U64 S) (k a f : Int) : U64 (mLoad S k a f) := h
theorem U64.nil : U64 ms0 := fun k => ⟨Int.le_refl _, by show (0 : Int) < _; decide⟩
structure Fin2 (S : MS) (R : RS) (n : Nat) : Prop where
  fine : Fine S R n
  u : U64 S
theorem Fin2.load {S : MS} {R : RS} {n : Nat} (h : Fin2 S R n) (k a f : Int) : Fin2 (mLoad S k a f) (rLoad R k a f) (n + 1) := ⟨(h.fine.load k a f).mono (by omega), h.u⟩
theorem Fin2.store {S : MS} {R : RS} {n : Nat} (h : Fin2 S R n) (k a f v : Int) (hv : 0 ≤ v ∧ v < 18446744073709551616) : Fin2 (mStore S k a f v) (rStore R k a f v) (n + 1) := ⟨h.fine.store k a f v, h.u.store k a f v hv⟩
theorem Fin2.cas {S : MS} {R : RS} {n : Nat} (h : Fin2 S R n) (k a f w v : Int) (hv : 0 ≤ v ∧ v < 18446744073709551616) : Fin2 (mCas S k a f w v) (rCas R k a f w v) (n + 1) := ⟨h.fine.cas k a f w v, h.u.cas k a f w v hv⟩
theorem Fin2.one {S : MS} {R : RS} {n : Nat} (h : Fin2 S R n) : Fin2 S R (n + 1) := ⟨h.fine.mono (by omega), h.u⟩
theorem Fin2.mono {S : MS} {R : RS} {n k : Nat} (h : Fin2 S R n) (hk : n ≤ k) : Fin2 S R k := ⟨h.fine.mono hk, h.u⟩
theorem msN_u {W : Nat → Wd} : ∀ n, (∀ i, i < n → 0 ≤ (W i).v ∧ (W i).v < 18446744073709551616) → U64 (msN W n)
  | 0, _ => U64.nil
  | n + 1, h => U64.store (msN_u n (fun i hi => h i (by omega))) _ _ _ _ (by rw [Nat.zero_add]; exact h n (by omega))
/-- Which operation takes a step. -/
def jX (r : Nat → AV) (n : Nat) : Nat := ((IntKind.u64.wrap (avInt (r 1))).tmod (IntKind.u64.wrap (Int.ofNat n))).toNat
theorem jX_lt (r : Nat → AV) {n : Nat} (h0 : n ≠ 0) (h1 : n ≤ 1000) : jX r n < n ∧ 0 ≤ (IntKind.u64.wrap (avInt (r 1))).tmod (IntKind.u64.wrap (Int.ofNat n)) := by
  have hn : IntKind.u64.wrap (Int.ofNat n) = (n : Int) := u64w (by simp) (by simp; omega)
  have hw := (w64_r (avInt (r 1))).1
  unfold jX
  rw [hn, Int.tmod_eq_emod_of_nonneg hw]
  have a := Int.emod_nonneg (IntKind.u64.wrap (avInt (r 1))) (b := (n : Int)) (by omega)
  have b := Int.emod_lt_of_pos (IntKind.u64.wrap (avInt (r 1))) (b := (n : Int)) (by omega)
  omega
/-- .. of a number that is a uint already. -/
def jU (r : Nat → AV) (n : Nat) : Nat := ((avInt (r 1)).tmod (IntKind.u64.wrap (Int.ofNat n))).toNat
theorem jU_lt {r : Nat → AV} (hr : 0 ≤ avInt (r 1)) {n : Nat} (h0 : n ≠ 0) (h1 : n ≤ 1000) : jU r n < n ∧ 0 ≤ (avInt (r 1)).tmod (IntKind.u64.wrap (Int.ofNat n)) := by
  have hn : IntKind.u64.wrap (Int.ofNat n) = (n : Int) := u64w (by simp) (by simp; omega)
  unfold jU
  rw [hn, Int.tmod_eq_emod_of_nonneg hr]
  have a := Int.emod_nonneg (avInt (r 1)) (b := (n : Int)) (by omega)
  have b := Int.emod_lt_of_pos (avInt (r 1)) (b := (n : Int)) (by omega)
  omega
def ltAll : List (Nat × AO) → Bool
  | [] => true
  | (n, _) :: r => match Nat.blt n 900 with
    | true => ltAll r
    | false => match Nat.ble (gnm 0) n with
      | true => ltAll r
      | false => false
theorem ltAll_get : ∀ (l : List (Nat × AO)), ltAll l = true → ∀ n o, get l n = some o → n < 900 ∨ gnm 0 ≤ n
  | [], _, n, o, h => by simp [Go.Ev.get] at h
  | (k, p) :: r, hl, n, o, h => by
    simp only [ltAll] at hl
    split at hl
    · rename_i hk
      rcases get_cons h with ⟨rfl, rfl⟩ | ⟨_, h⟩
      · exact .inl (by simpa [Nat.blt_eq] using hk)
      · exact ltAll_get r hl n o h
    · split at hl
      · rename_i hk
        rcases get_cons h with ⟨rfl, rfl⟩ | ⟨_, h⟩
        · exact .inr (Nat.le_of_ble_eq_true hk)
        · exact ltAll_get r hl n o h
      · cases hl
theorem eqF {a b : Int} (h : ¬ a = b) : (a == b) = false := by simpa using h
theorem eqT {a b : Int} (h : a = b) : (a == b) = true := by simpa using h
theorem z0 : (0 : Int) ≤ 0 ∧ (0 : Int) < 18446744073709551616 := by decide
theorem allVal {sh : List CK} (h : ∀ k ∈ sh, k = .val) : ∀ (j : Nat) k, sh[j]? = some k → k = .val := fun j k e => h k (List.mem_of_getElem? e)
def valAll : List CK → Bool
  | [] => true
  | .val :: r => valAll r
  | _ :: _ => false
theorem valAll_ok : ∀ {sh : List CK}, valAll sh = true → ∀ (j : Nat) k, sh[j]? = some k → k = .val
  | [], _, j, k, e => by simp at e
  | .val :: r, h, 0, k, e => by simp at e; exact e.symm
  | .val :: r, h, j + 1, k, e => valAll_ok (sh := r) h j k (by simpa using e)
  | .int _ :: r, h, _, _, _ => by simp [valAll] at h
  | .bool :: r, h, _, _, _ => by simp [valAll] at h

/-! ### the loop's state -/
structure GX (O : Type) where
  S : MS
  R : RS
  n : Nat
  O : Nat → O
section
variable {O : Type}
def gAdd (x : GX O) (o : O) : GX O := ⟨x.S, x.R, x.n + 1, fun i => if i = x.n then o else x.O i⟩
def gSto (x : GX O) (k a f v : Int) : GX O := ⟨mStore x.S k a f v, rStore x.R k a f v, x.n, x.O⟩
def gPut (x : GX O) (S : MS) (R : RS) (j : Nat) (o : O) : GX O := ⟨S, R, x.n, fun i => if i = j then o else x.O i⟩
structure GIv (ok : O → Prop) (x : GX O) (i q : Nat) : Prop where
  f : Fin2 x.S x.R (q + i)
  n : x.n ≤ i
  o : ∀ j, ok (x.O j)
variable {ok : O → Prop} {x : GX O} {i q : Nat}
theorem GIv.add (h : GIv ok x i q) {o : O} (ho : ok o) : GIv ok (gAdd x o) (i + 1) q := ⟨h.f.one, Nat.succ_le_succ h.n, fun j => by
  show ok (if j = x.n then o else x.O j)
  split
  · exact ho
  · exact h.o j⟩
theorem GIv.sto (h : GIv ok x i q) (k a f : Int) {v : Int} (hv : 0 ≤ v ∧ v < 18446744073709551616) : GIv ok (gSto x k a f v) (i + 1) q := ⟨h.f.store k a f v hv, Nat.le_succ_of_le h.n, h.o⟩
theorem GIv.idle (h : GIv ok x i q) : GIv ok x (i + 1) q := ⟨h.f.one, Nat.le_succ_of_le h.n, h.o⟩
theorem GIv.put (h : GIv ok x i q) {S : MS} {R : RS} (hf : Fin2 S R (q + i + 1)) (j : Nat) {o : O} (ho : ok o) : GIv ok (gPut x S R j o) (i + 1) q := ⟨hf, Nat.le_succ_of_le h.n, fun k => by
  show ok (if k = j then o else x.O k)
  split
  · exact ho
  · exact h.o k⟩
end

/-! ### rows of pointers -/
/-- A source row's cells and a member's: pointers to the same blocks. -/
def cellsSame (c : CM) : List AV → List AV → Bool
  | [], [] => true
  | .nilp :: r, .nilp :: t => cellsSame c r t
  | .ptr a 0 0 :: r, .ptr k 0 0 :: t => match c.same (900 + k) a with
    | true => cellsSame c r t
    | false => false
  | _, _ => false
/-- A member's cells: pointers to its own blocks, or nil. -/
def cellsOk (q : Nat) : List AV → Bool
  | [] => true
  | .nilp :: r => cellsOk q r
  | .ptr k 0 0 :: r => match Nat.blt k q with
    | true => cellsOk q r
    | false => false
  | _ => false
theorem cellsOk_get {q : Nat} : ∀ {l : List AV}, cellsOk q l = true → ∀ c, c < l.length → ∃ v, nth l c = some v ∧ (v = .nilp ∨ ∃ k, k < q ∧ v = .ptr k 0 0)
  | [], _, c, h => by simp at h
  | .nilp :: r, hk, 0, _ => ⟨_, rfl, .inl rfl⟩
  | .nilp :: r, hk, c + 1, h => cellsOk_get (l := r) hk c (by simpa using h)
  | .ptr k 0 0 :: r, hk, 0, _ => by
    simp only [cellsOk] at hk
    split at hk
    · rename_i hb
      exact ⟨_, rfl, .inr ⟨k, by simpa [Nat.blt_eq] using hb, rfl⟩⟩
    · cases hk
  | .ptr k 0 0 :: r, hk, c + 1, h => by
    simp only [cellsOk] at hk
    split at hk
    · exact cellsOk_get (l := r) hk c (by simpa using h)
    · cases hk
theorem mvV_ptr {q b k : Nat} (h : k < q) : mvV q b (.ptr k 0 0) = .ptr (b + k) 0 0 := by
  have : Nat.blt k q = true := by simpa [Nat.blt_eq] using h
  simp [mvV, renV, sft, this]
theorem okV_ptr {q k : Nat} (h : k < q) : okV q (.ptr k 0 0) := fun b => by
  have : Nat.blt k q = true := by simpa [Nat.blt_eq] using h
  exact ⟨.ptr (b + k) 0 0, by simp [renV, sft, this]⟩
theorem okV_nilp {q : Nat} : okV q .nilp := fun b => ⟨.nilp, rfl⟩
theorem cellsSame_val {c : CM} {q : Nat} : ∀ {l t : List AV}, cellsSame c l t = true → cellsOk q t = true → ∀ cc, cc < t.length → ∃ v u, nth l cc = some v ∧ nth t cc = some u ∧ valV c v (mvV q 900 u)
  | [], [], _, _, cc, h => by simp at h
  | .nilp :: r, .nilp :: t, hs, hk, 0, _ => ⟨_, _, rfl, rfl, valV_nilp⟩
  | .nilp :: r, .nilp :: t, hs, hk, cc + 1, h => cellsSame_val (l := r) (t := t) hs hk cc (by simpa using h)
  | .ptr a 0 0 :: r, .ptr k 0 0 :: t, hs, hk, 0, _ => by
    simp only [cellsSame] at hs
    simp only [cellsOk] at hk
    split at hs
    · rename_i h1
      split at hk
      · rename_i h2
        refine ⟨_, _, rfl, rfl, ?_⟩
        rw [mvV_ptr (by simpa [Nat.blt_eq] using h2)]
        exact valV_ptr h1
      · cases hk
    · cases hs
  | .ptr a 0 0 :: r, .ptr k 0 0 :: t, hs, hk, cc + 1, h => by
    simp only [cellsSame] at hs
    simp only [cellsOk] at hk
    split at hs
    · split at hk
      · exact cellsSame_val (l := r) (t := t) hs hk cc (by simpa using h)
      · cases hk
    · cases hs
  | [], x :: r, hs, _, _, _ => by cases x <;> simp [cellsSame] at hs
/-- A member's own blocks are theirs behind a round. -/
def selfSame (c : CM) : Nat → Bool
  | 0 => true
  | k + 1 => match c.same (900 + k) (900 + k) with
    | true => selfSame c k
    | false => false
theorem selfSame_get {c : CM} : ∀ {q : Nat}, selfSame c q = true → ∀ k, k < q → c.same (900 + k) (900 + k) = true
  | 0, _, k, h => absurd h (Nat.not_lt_zero k)
  | q + 1, hs, k, h => by
    simp only [selfSame] at hs
    split at hs
    · rename_i h1
      rcases Nat.lt_or_ge k q with e | e
      · exact selfSame_get hs k e
      · obtain rfl : k = q := by omega
        exact h1
    · cases hs
def objsOk (q : Nat) : List (Nat × AO) → Bool
  | [] => true
  | (n, o) :: r => match Nat.blt n q with
    | true => objsOk q r
    | false => false
structure MbF (F : Fam) (m : Mb) : Prop where
  len : m.cells.length = F.wd
  cells : cellsOk F.q m.cells = true
  objs : ∀ c o, get m.objs c = some o → c < F.q ∧ okO F.q o
theorem mbOk_of {F : Fam} (hF : F.sh.length = F.wd) (hV : valAll F.sh = true) {m : Mb} (h : MbF F m) : MbOk F m := by
  refine ⟨fun c k hk => ?_, h.objs⟩
  have e := valAll_ok hV c k hk
  subst e
  have hc : c < m.cells.length := by rw [h.len, ← hF]; exact (List.getElem?_eq_some_iff.1 hk).1
  obtain ⟨v, h1, h2⟩ := cellsOk_get h.cells c hc
  refine ⟨v, h1, ?_, ?_⟩
  · rcases h2 with rfl | ⟨k, hk, rfl⟩
    · exact okV_nilp
    · exact okV_ptr hk
  · rcases h2 with rfl | ⟨k, hk, rfl⟩ <;> rfl
theorem obj2 {q : Nat} {o0 o1 : AO} (hq : 2 ≤ q) (h0 : okO q o0) (h1 : okO q o1) : ∀ c o, get [(0, o0), (1, o1)] c = some o → c < q ∧ okO q o := by
  intro c o h
  rcases get_cons h with ⟨rfl, rfl⟩ | ⟨_, h⟩
  · exact ⟨by omega, h0⟩
  · rcases get_cons h with ⟨rfl, rfl⟩ | ⟨_, h⟩
    · exact ⟨by omega, h1⟩
    · simp [Go.Ev.get] at h

section
variable {F : Fam} (hF : F.sh.length = F.wd) (hV : valAll F.sh = true) {M M' : Nat → Mb} {n : Nat} (hM : ∀ i, MbF F (M i)) {c : CM} (hc : c.hi = F.b0)
include hF hV hM hc
/-- A member's step: its row stays. -/
theorem fg_do {j : Nat} (hj : (M' j).cells = (M j).cells) (hne : ∀ i, i ≠ j → M' i = M i) (hs : selfSame c F.q = true) {n' : Nat} : ∀ i, i < n' → rowV c F.sh 0 (lrow F.b0 F.q M j i) (lrow F.b0 F.q M' j i) := by
  refine fam_rows (n := 0) (valAll_ok hV) (by rw [hc]; exact Nat.le_refl _) (M := M) (fun i hi h => ⟨mbOk_of hF hV (hM i), hne i h, fun cc => lrow_ne h⟩) (fun _ cc k hk => ?_)
  have hcc : cc < (M j).cells.length := by rw [(hM j).len, ← hF]; exact (List.getElem?_eq_some_iff.1 hk).1
  rw [lrow_j rfl]
  obtain ⟨v, h2, hq⟩ := cellsOk_get (hM j).cells cc hcc
  have e1 : mrow F.q 900 (M j) cc = mvV F.q 900 v := by unfold mrow; rw [h2]
  have e2 : mrow F.q 900 (M' j) cc = mvV F.q 900 v := by unfold mrow; rw [hj, h2]
  rw [e1, e2]
  rcases hq with rfl | ⟨k, hk, rfl⟩
  · exact valV_nilp
  · rw [mvV_ptr hk]
    exact valV_ptr (selfSame_get hs k hk)
theorem fg_no {j : Nat} (hj : n ≤ j) (hO : ∀ i, M' i = M i) : ∀ i, i < n → rowV c F.sh 0 (lrow F.b0 F.q M j i) (lrow F.b0 F.q M' j i) :=
  fam_rows (n := 0) (valAll_ok hV) (by rw [hc]; exact Nat.le_refl _) (M := M) (fun i hi h => ⟨mbOk_of hF hV (hM i), hO i, fun cc => lrow_ne h⟩) (fun h cc k hk => by omega)
theorem fg_add {l t : List AV} (h' : MbF F (M' n)) (ht : (M' n).cells = t) (hs : cellsSame c l t = true) (hne : ∀ i, i ≠ n → M' i = M i) : ∀ i, i < n + 1 → rowV c F.sh 0 (fun j => if i < n then lrow F.b0 F.q M n (0 + i) j else rowsOf F.wd l (i - n) j) (lrow F.b0 F.q M' n i) := by
  refine fam_rows (n := 0) (valAll_ok hV) (by rw [hc]; exact Nat.le_refl _) (M := M) (src := fun i j => if i < n then lrow F.b0 F.q M n (0 + i) j else rowsOf F.wd l (i - n) j) (fun i hi h => ⟨mbOk_of hF hV (hM i), hne i h, fun cc => ?_⟩) (fun _ cc k hk => ?_)
  · show (if i < n then _ else _) = _
    rw [if_pos (by omega), Nat.zero_add]
    exact lrow_ne h
  · show valV c (if n < n then _ else _) _
    rw [if_neg (Nat.lt_irrefl _), Nat.sub_self]
    have hcc : cc < (M' n).cells.length := by rw [h'.len, ← hF]; exact (List.getElem?_eq_some_iff.1 hk).1
    subst ht
    obtain ⟨v, u, h1, h2, h3⟩ := cellsSame_val hs h'.cells cc hcc
    have e2 : mrow F.q 900 (M' n) cc = mvV F.q 900 u := by unfold mrow; rw [h2]
    rw [e2]
    refine valV_eq ?_ h3
    simp [rowsOf, h1]
end
end Go.Ev

/-
  A contract over closed values serves symbolic ones that are those very values.
-/
set_option linter.unusedSimpArgs false
set_option linter.unusedVariables false
namespace Go.Ev

mutual
def symV : AV → AV
  | .int k n => .sym k n
  | .bool b => .symb b
  | .agg l => .agg (symL l)
  | .tup l => .tup (symL l)
  | v => v
def symL : List AV → List AV
  | [] => []
  | v :: r => symV v :: symL r
end
mutual
theorem symV_den {ρ : Ren} : ∀ (v : AV), den ρ (symV v) = den ρ v
  | .top => rfl
  | .int .. => rfl
  | .sym .. => rfl
  | .bool .. => rfl
  | .symb .. => rfl
  | .nilp => rfl
  | .ptr .. => rfl
  | .nils => rfl
  | .xs .. => rfl
  | .ss .. => rfl
  | .nilm => rfl
  | .map .. => rfl
  | .nilf => rfl
  | .func .. => rfl
  | .nili => rfl
  | .iface .. => rfl
  | .agg l => by simp only [symV, den, symL_den l]
  | .tup l => by simp only [symV, den, symL_den l]
  | .stamp .. => rfl
  | .raw .. => rfl
theorem symL_den {ρ : Ren} : ∀ (l : List AV), denL ρ (symL l) = denL ρ l
  | [] => rfl
  | v :: r => by simp only [symL, denL, symV_den v, symL_den r]
end
theorem symV_top : ∀ {v : AV}, symV v = .top → v = .top
  | .top, _ => rfl
  | .int .., h => by cases h
  | .sym .., h => by cases h
  | .bool .., h => by cases h
  | .symb .., h => by cases h
  | .nilp, h => by cases h
  | .ptr .., h => by cases h
  | .nils, h => by cases h
  | .xs .., h => by cases h
  | .ss .., h => by cases h
  | .nilm, h => by cases h
  | .map .., h => by cases h
  | .nilf, h => by cases h
  | .func .., h => by cases h
  | .nili, h => by cases h
  | .iface .., h => by cases h
  | .agg l, h => by simp only [symV] at h; cases h
  | .tup l, h => by simp only [symV] at h; cases h
  | .stamp .., h => by cases h
  | .raw .., h => by cases h
def symO : AO → AO
  | .cells wd l => .cells wd (symL l)
  | o => o
theorem symO_ro (o : AO) : (symO o).ro = o.ro := by cases o <;> rfl
theorem symL_get : ∀ (l : List AV) (j : Nat) v, l[j]? = some v → (symL l)[j]? = some (symV v)
  | [], j, v, h => by simp at h
  | a :: r, 0, v, h => by simp at h; simp [symL, h]
  | a :: r, j + 1, v, h => by simp at h; simp [symL]; exact symL_get r j v h
theorem symL_length : ∀ l : List AV, (symL l).length = l.length
  | [] => rfl
  | a :: r => by simp [symL, symL_length r]
theorem symO_rep {P : Program} {ρ : Ren} {w : World} {l : Loc} {o : AO} (h : ObjRep P ρ w l (symO o)) : ObjRep P ρ w l o := by
  cases o with
  | cells wd cs =>
    obtain ⟨h0, h1, h2, c, t, fr, hb, hf, hc, hc2, hv⟩ := h
    refine ⟨h0, h1, h2, c, t, fr, hb, hf, by rw [symL_length] at hc; exact hc, hc2, fun j v hj => ?_⟩
    obtain ⟨x, hx, hr⟩ := hv j _ (symL_get cs j v hj)
    refine ⟨x, hx, ?_⟩
    rcases hr with hr | hr
    · exact .inl (symV_top hr)
    · exact .inr (by rw [← symV_den]; exact hr)
  | arr wd sh ro len f => exact h
  | map t f => exact h
  | mapP t f n k => exact h
def symH : List (Nat × AO) → List (Nat × AO)
  | [] => []
  | (n, o) :: r => (n, symO o) :: symH r
theorem symH_get : ∀ (h : List (Nat × AO)) (n : Nat) o, get h n = some o → get (symH h) n = some (symO o)
  | [], n, o, e => by simp [get] at e
  | (m, x) :: r, n, o, e => by
    simp only [symH, get] at e ⊢
    split at e
    · cases e; rfl
    · exact symH_get r n o e
theorem symH_get' : ∀ (h : List (Nat × AO)) (n : Nat) o, get (symH h) n = some o → ∃ o1, get h n = some o1 ∧ o = symO o1
  | [], n, o, e => by simp [symH, get] at e
  | (m, x) :: r, n, o, e => by
    simp only [symH, get] at e ⊢
    split at e
    · cases e; exact ⟨x, rfl, rfl⟩
    · exact symH_get' r n o e

theorem loc_sym {P : Program} {f : FuncId} {la : List AV} {lh : List (Nat × AO)} {R : LR} (h : LocOk P f la lh R) : LocOk P f (symL la) (symH lh) R := by
  intro ρ w hob hr hf hg xs hx
  have hr' : HeapRep P ρ lh w := by
    refine ⟨fun n o e => ?_, fun n m o o' l l' e e' hne hro => ?_⟩
    · obtain ⟨l, hl, ho⟩ := hr.1 n _ (symH_get _ _ _ e)
      exact ⟨l, hl, symO_rep ho⟩
    · exact hr.2 n m _ _ l l' (symH_get _ _ _ e) (symH_get _ _ _ e') hne (by rw [symO_ro, symO_ro]; exact hro)
  refine (h ρ w hob hr' hf hg xs (by rw [← symL_den]; exact hx)).mono fun e w' ⟨x, ρ', he, hv, st⟩ => ⟨x, ρ', he, hv, ?_⟩
  refine ⟨st.le, st.new, st.rep, st.fr.mono ?_, fun n o l h1 h2 h3 h4 => ?_⟩
  · rintro b ⟨m, hm, o, l, e1, e2, e3⟩
    exact ⟨m, hm, _, l, symH_get _ _ _ e1, by rw [symO_ro]; exact e2, e3⟩
  · obtain ⟨m, o', l', e1, e2, e3⟩ := st.own n o l h1 h2 h3 h4
    exact ⟨m, _, l', symH_get _ _ _ e1, by rw [symO_ro]; exact e2, e3⟩
theorem symL_get' : ∀ (l : List AV) (j : Nat) v, (symL l)[j]? = some v → ∃ u, l[j]? = some u ∧ v = symV u
  | [], j, v, h => by simp [symL] at h
  | a :: r, 0, v, h => by simp [symL] at h; exact ⟨a, by simp, h.symm⟩
  | a :: r, j + 1, v, h => by simp [symL] at h; obtain ⟨u, hu, e⟩ := symL_get' r j v h; exact ⟨u, by simpa using hu, e⟩
theorem symO_rep' {P : Program} {ρ : Ren} {w : World} {l : Loc} {o : AO} (h : ObjRep P ρ w l o) : ObjRep P ρ w l (symO o) := by
  cases o with
  | cells wd cs =>
    obtain ⟨h0, h1, h2, c, t, fr, hb, hf, hc, hc2, hv⟩ := h
    refine ⟨h0, h1, h2, c, t, fr, hb, hf, by rw [symL_length]; exact hc, hc2, fun j v hj => ?_⟩
    obtain ⟨u, hu, rfl⟩ := symL_get' cs j v hj
    obtain ⟨x, hx, hr⟩ := hv j u hu
    refine ⟨x, hx, ?_⟩
    rcases hr with hr | hr
    · subst hr; exact .inl rfl
    · exact .inr (by rw [symV_den]; exact hr)
  | arr wd sh ro len f => exact h
  | map t f => exact h
  | mapP t f n k => exact h
def symR (R : LR) : LR := ⟨R.k, R.v, symH R.heap, R.n, R.wr, R.ob⟩
theorem loc_symR {P : Program} {f : FuncId} {la : List AV} {lh : List (Nat × AO)} {R : LR} (h : LocOk P f la lh R) : LocOk P f (symL la) (symH lh) (symR R) := by
  intro ρ w hob hr hf hg xs hx
  refine (loc_sym h ρ w hob hr hf hg xs hx).mono fun e w' ⟨x, ρ', he, hv, st⟩ => ⟨x, ρ', he, hv, ?_⟩
  refine ⟨st.le, st.new, ⟨fun n o e => ?_, fun n m o o' l l' e e' hne hro => ?_⟩, st.fr, fun n o l h1 h2 h3 h4 => ?_⟩
  · obtain ⟨o1, h1, rfl⟩ := symH_get' _ _ _ e
    obtain ⟨l, hl, ho⟩ := st.rep.1 n o1 h1
    exact ⟨l, hl, symO_rep' ho⟩
  · obtain ⟨o1, h1, rfl⟩ := symH_get' _ _ _ e
    obtain ⟨o2, h2, rfl⟩ := symH_get' _ _ _ e'
    rw [symO_ro, symO_ro] at hro
    exact st.rep.2 n m o1 o2 l l' h1 h2 hne hro
  · obtain ⟨o1, g1, rfl⟩ := symH_get' _ _ _ h1
    obtain ⟨m, o', l', e1, e2, e3⟩ := st.own n o1 l g1 h2 h3 h4
    exact ⟨m, o', l', e1, by rw [symO_ro]; exact e2, e3⟩
/-- .. where the answer is written otherwise. -/
theorem loc_fit {P : Program} {f : FuncId} {la : List AV} {lh : List (Nat × AO)} {R R' : LR} (h : LocOk P f la lh R) (ho : ∀ p ∈ R.ob, p) (e : R' = ⟨R.k, R.v, R.heap, R.n, R.wr, R'.ob⟩) : LocOk P f la lh R' := by
  rw [e]
  intro ρ w _ hr hf hg xs hx
  exact h ρ w ho hr hf hg xs hx
/-- .. as an equation shows it. -/
theorem loc_sym' {P : Program} {f : FuncId} {la la' : List AV} {lh lh' : List (Nat × AO)} {R R' : LR} (h : LocOk P f la lh R) (e1 : symL la = la') (e2 : symH lh = lh') (e3 : R = R') : LocOk P f la' lh' R' := by
  subst e1; subst e2; subst e3; exact loc_sym h
end Go.Ev
