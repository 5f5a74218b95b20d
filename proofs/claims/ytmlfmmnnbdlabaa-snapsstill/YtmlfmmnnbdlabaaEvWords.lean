/-
  The words of a memory, in order: plain definitions and facts.
-/
import Derived.Test.YtmlfmmnnbdlabaaEvLoc2
set_option linter.unusedSimpArgs false
set_option linter.unusedVariables false
namespace Go.Ev

abbrev K3 := Int × Int × Int
/-- Does a key stand ahead of another one? -/
def ltK (x y : K3) : Prop := x.1 < y.1 ∨ x.1 = y.1 ∧ (x.2.1 < y.2.1 ∨ x.2.1 = y.2.1 ∧ x.2.2 < y.2.2)
theorem ltK_irrefl (x : K3) : ¬ ltK x x := by unfold ltK; omega
theorem ltK_trans {x y z : K3} (h1 : ltK x y) (h2 : ltK y z) : ltK x z := by unfold ltK at *; omega
theorem ltK_total {x y : K3} (h1 : ¬ ltK x y) (h2 : ¬ ltK y x) : x = y := by
  unfold ltK at h1 h2
  exact Prod.ext (by omega) (Prod.ext (by omega) (by omega))

/-- A list is the words of f, in order. -/
structure IsWl (f : List Int → Option Int) (l : List (K3 × Int)) : Prop where
  sorted : l.Pairwise (fun x y => ltK x.1 y.1)
  mem : ∀ k v, (k, v) ∈ l ↔ mget f (key k.1 k.2.1 k.2.2) = v ∧ v ≠ 0

theorem sorted_eq : ∀ (l m : List (K3 × Int)), l.Pairwise (fun x y => ltK x.1 y.1) → m.Pairwise (fun x y => ltK x.1 y.1) → (∀ x, x ∈ l ↔ x ∈ m) → l = m
  | [], [], _, _, _ => rfl
  | [], y :: m, _, _, h => by have := (h y).2 (List.mem_cons_self ..); cases this
  | x :: l, [], _, _, h => by have := (h x).1 (List.mem_cons_self ..); cases this
  | x :: l, y :: m, hl, hm, h => by
    obtain ⟨a1, a2⟩ := List.pairwise_cons.1 hl
    obtain ⟨b1, b2⟩ := List.pairwise_cons.1 hm
    have exy : x = y := by
      rcases List.mem_cons.1 ((h x).1 (List.mem_cons_self ..)) with e | e
      · exact e
      · rcases List.mem_cons.1 ((h y).2 (List.mem_cons_self ..)) with e2 | e2
        · exact e2.symm
        · exact (ltK_irrefl _ (ltK_trans (a1 y e2) (b1 x e))).elim
    subst exy
    rw [sorted_eq l m a2 b2 (fun z => ?_)]
    constructor
    · intro hz
      rcases List.mem_cons.1 ((h z).1 (List.mem_cons_of_mem _ hz)) with e | e
      · subst e; exact (ltK_irrefl _ (a1 z hz)).elim
      · exact e
    · intro hz
      rcases List.mem_cons.1 ((h z).2 (List.mem_cons_of_mem _ hz)) with e | e
      · subst e; exact (ltK_irrefl _ (b1 z hz)).elim
      · exact e
theorem IsWl.unique {f : List Int → Option Int} {l m : List (K3 × Int)} (h : IsWl f l) (h' : IsWl f m) : l = m :=
  sorted_eq l m h.sorted h'.sorted (fun ⟨k, v⟩ => (h.mem k v).trans (h'.mem k v).symm)
theorem IsWl.congr {f g : List Int → Option Int} {l : List (K3 × Int)} (h : IsWl f l) (e : ∀ k a b, mget g (key k a b) = mget f (key k a b)) : IsWl g l := ⟨h.sorted, fun k v => by rw [e]; exact h.mem k v⟩

open Classical in
/-- The words of f, in order. -/
noncomputable def wlF (f : List Int → Option Int) : List (K3 × Int) := if h : ∃ l, IsWl f l then Classical.choose h else []
theorem wlF_eq {f : List Int → Option Int} {l : List (K3 × Int)} (h : IsWl f l) : wlF f = l := by
  have hex : ∃ l, IsWl f l := ⟨l, h⟩
  unfold wlF
  rw [dif_pos hex]
  exact (Classical.choose_spec hex).unique h

def wdAt (l : List (K3 × Int)) (i : Nat) : Wd := match l[i]? with
  | some x => ⟨x.1.1, x.1.2.1, x.1.2.2, x.2⟩
  | none => ⟨0, 0, 0, 0⟩

/-- It has no more than so many entries. -/
def FinM (f : List Int → Option Int) (n : Nat) : Prop := ∃ l : List (List Int), l.length ≤ n ∧ ∀ k v, f k = some v → k ∈ l
theorem FinM.nil (n : Nat) : FinM (fun _ => none) n := ⟨[], Nat.zero_le _, fun k v h => by cases h⟩
theorem FinM.mono {f : List Int → Option Int} {n m : Nat} (h : FinM f n) (hm : n ≤ m) : FinM f m := let ⟨l, h1, h2⟩ := h; ⟨l, Nat.le_trans h1 hm, h2⟩
theorem FinM.set {f : List Int → Option Int} {n : Nat} (h : FinM f n) (k : List Int) (v : Option Int) : FinM (setKey f k v) (n + 1) := by
  obtain ⟨l, h1, h2⟩ := h
  refine ⟨k :: l, by simp; omega, fun q u hq => ?_⟩
  unfold setKey at hq
  split at hq
  · rename_i e; subst e; exact List.mem_cons_self ..
  · exact List.mem_cons_of_mem _ (h2 q u hq)
theorem FinM.put {f : List Int → Option Int} {n : Nat} (h : FinM f n) (k a b v : Int) : FinM (memPut f k a b v) (n + 1) := by
  unfold memPut
  split
  · exact h.set _ _
  · exact h.mono (by omega)
theorem FinM.cas {f : List Int → Option Int} {n : Nat} (h : FinM f n) (k a b w v : Int) : FinM (casM f k a b w v) (n + 1) := by
  unfold casM
  split
  · exact h.set _ _
  · exact h.mono (by omega)

theorem nodup_len : ∀ (a b : List (List Int)), a.Nodup → (∀ x ∈ a, x ∈ b) → a.length ≤ b.length
  | [], b, _, _ => Nat.zero_le _
  | x :: r, b, hn, hs => by
    obtain ⟨h1, h2⟩ := List.nodup_cons.1 hn
    have hx := hs x (List.mem_cons_self ..)
    have := nodup_len r (b.erase x) h2 (fun y hy => (List.mem_erase_of_ne (fun e => h1 (by rw [← e]; exact hy))).2 (hs y (List.mem_cons_of_mem _ hy)))
    rw [List.length_erase_of_mem hx] at this
    have : 0 < b.length := List.length_pos_of_mem hx
    simp; omega
end Go.Ev
