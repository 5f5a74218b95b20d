/-
  EvWords and what follows it.
-/
import Derived.Test.YtljeiencnpnbkaaDoorEvLoc2
/-
  The words of a memory, in order: plain definitions and facts.
-/
set_option linter.unusedSimpArgs false
set_option linter.unusedVariables false
namespace Go.Ev

abbrev K3 := Int × Int × Int
/-- Does a key stand ahead of another one? -/
def ltK (x y : K3) : Prop := x.1 < y.1 ∨ x.1 = y.1 ∧ (x.2.1 < y.2.1 ∨ x.2.1 = y.2.1 ∧ x.2.2 < y.2.2)
theorem ltK_irrefl (x : K3) : ¬ ltK x x := by unfold ltK; omega
theorem ltK_trans {x y z : K3} (h1 : ltK x y) (h2 : ltK y z) : ltK x z := by unfold ltK at *; omega
theorem ltK_total {x y : K3} (h1 : ¬ ltK x y) (h2 : ¬ ltK y x) : x = y := by
  unfold ltK at h1 h2
  exact Prod.ext (by omega) (Prod.ext (by omega) (by omega))

/-- A list is the words of f, in order. -/
structure IsWl (f : List Int → Option Int) (l : List (K3 × Int)) : Prop where
  sorted : l.Pairwise (fun x y => ltK x.1 y.1)
  mem : ∀ k v, (k, v) ∈ l ↔ mget f (key k.1 k.2.1 k.2.2) = v ∧ v ≠ 0

theorem sorted_eq : ∀ (l m : List (K3 × Int)), l.Pairwise (fun x y => ltK x.1 y.1) → m.Pairwise (fun x y => ltK x.1 y.1) → (∀ x, x ∈ l ↔ x ∈ m) → l = m
  | [], [], _, _, _ => rfl
  | [], y :: m, _, _, h => by have := (h y).2 (List.mem_cons_self ..); cases this
  | x :: l, [], _, _, h => by have := (h x).1 (List.mem_cons_self ..); cases this
  | x :: l, y :: m, hl, hm, h => by
    obtain ⟨a1, a2⟩ := List.pairwise_cons.1 hl
    obtain ⟨b1, b2⟩ := List.pairwise_cons.1 hm
    have exy : x = y := by
      rcases List.mem_cons.1 ((h x).1 (List.mem_cons_self ..)) with e | e
      · exact e
      · rcases List.mem_cons.1 ((h y).2 (List.mem_cons_self ..)) with e2 | e2
        · exact e2.symm
        · exact (ltK_irrefl _ (ltK_trans (a1 y e2) (b1 x e))).elim
    subst exy
    rw [sorted_eq l m a2 b2 (fun z => ?_)]
    constructor
    · intro hz
      rcases List.mem_cons.1 ((h z).1 (List.mem_cons_of_mem _ hz)) with e | e
      · subst e; exact (ltK_irrefl _ (a1 z hz)).elim
      · exact e
    · intro hz
      rcases List.mem_cons.1 ((h z).2 (List.mem_cons_of_mem _ hz)) with e | e
      · subst e; exact (ltK_irrefl _ (b1 z hz)).elim
      · exact e
theorem IsWl.unique {f : List Int → Option Int} {l m : List (K3 × Int)} (h : IsWl f l) (h' : IsWl f m) : l = m :=
  sorted_eq l m h.sorted h'.sorted (fun ⟨k, v⟩ => (h.mem k v).trans (h'.mem k v).symm)
theorem IsWl.congr {f g : List Int → Option Int} {l : List (K3 × Int)} (h : IsWl f l) (e : ∀ k a b, mget g (key k a b) = mget f (key k a b)) : IsWl g l := ⟨h.sorted, fun k v => by rw [e]; exact h.mem k v⟩

open Classical in
/-- The words of f, in order. -/
noncomputable def wlF (f : List Int → Option Int) : List (K3 × Int) := if h : ∃ l, IsWl f l then Classical.choose h else []
theorem wlF_eq {f : List Int → Option Int} {l : List (K3 × Int)} (h : IsWl f l) : wlF f = l := by
  have hex : ∃ l, IsWl f l := ⟨l, h⟩
  unfold wlF
  rw [dif_pos hex]
  exact (Classical.choose_spec hex).unique h

def wdAt (l : List (K3 × Int)) (i : Nat) : Wd := match l[i]? with
  | some x => ⟨x.1.1, x.1.2.1, x.1.2.2, x.2⟩
  | none => ⟨0, 0, 0, 0⟩

/-- It has no more than so many entries. -/
def FinM (f : List Int → Option Int) (n : Nat) : Prop := ∃ l : List (List Int), l.length ≤ n ∧ ∀ k v, f k = some v → k ∈ l
theorem FinM.nil (n : Nat) : FinM (fun _ => none) n := ⟨[], Nat.zero_le _, fun k v h => by cases h⟩
theorem FinM.mono {f : List Int → Option Int} {n m : Nat} (h : FinM f n) (hm : n ≤ m) : FinM f m := let ⟨l, h1, h2⟩ := h; ⟨l, Nat.le_trans h1 hm, h2⟩
theorem FinM.set {f : List Int → Option Int} {n : Nat} (h : FinM f n) (k : List Int) (v : Option Int) : FinM (setKey f k v) (n + 1) := by
  obtain ⟨l, h1, h2⟩ := h
  refine ⟨k :: l, by simp; omega, fun q u hq => ?_⟩
  unfold setKey at hq
  split at hq
  · rename_i e; subst e; exact List.mem_cons_self ..
  · exact List.mem_cons_of_mem _ (h2 q u hq)
theorem FinM.put {f : List Int → Option Int} {n : Nat} (h : FinM f n) (k a b v : Int) : FinM (memPut f k a b v) (n + 1) := by
  unfold memPut
  split
  · exact h.set _ _
  · exact h.mono (by omega)
theorem FinM.cas {f : List Int → Option Int} {n : Nat} (h : FinM f n) (k a b w v : Int) : FinM (casM f k a b w v) (n + 1) := by
  unfold casM
  split
  · exact h.set _ _
  · exact h.mono (by omega)

theorem nodup_len : ∀ (a b : List (List Int)), a.Nodup → (∀ x ∈ a, x ∈ b) → a.length ≤ b.length
  | [], b, _, _ => Nat.zero_le _
  | x :: r, b, hn, hs => by
    obtain ⟨h1, h2⟩ := List.nodup_cons.1 hn
    have hx := hs x (List.mem_cons_self ..)
    have := nodup_len r (b.erase x) h2 (fun y hy => (List.mem_erase_of_ne (fun e => h1 (by rw [← e]; exact hy))).2 (hs y (List.mem_cons_of_mem _ hy)))
    rw [List.length_erase_of_mem hx] at this
    have : 0 < b.length := List.length_pos_of_mem hx
    simp; omega
end Go.Ev

/-
  A contract over closed values serves symbolic ones that are those very values.
-/
set_option linter.unusedSimpArgs false
set_option linter.unusedVariables false
namespace Go.Ev

mutual
def symV : AV → AV
  | .int k n => .sym k n
  | .bool b => .symb b
  | .agg l => .agg (symL l)
  | .tup l => .tup (symL l)
  | v => v
def symL : List AV → List AV
  | [] => []
  | v :: r => symV v :: symL r
end
mutual
theorem symV_den {ρ : Ren} : ∀ (v : AV), den ρ (symV v) = den ρ v
  | .top => rfl
  | .int .. => rfl
  | .sym .. => rfl
  | .bool .. => rfl
  | .symb .. => rfl
  | .nilp => rfl
  | .ptr .. => rfl
  | .nils => rfl
  | .xs .. => rfl
  | .ss .. => rfl
  | .nilm => rfl
  | .map .. => rfl
  | .nilf => rfl
  | .func .. => rfl
  | .nili => rfl
  | .iface .. => rfl
  | .agg l => by simp only [symV, den, symL_den l]
  | .tup l => by simp only [symV, den, symL_den l]
  | .stamp .. => rfl
  | .raw .. => rfl
theorem symL_den {ρ : Ren} : ∀ (l : List AV), denL ρ (symL l) = denL ρ l
  | [] => rfl
  | v :: r => by simp only [symL, denL, symV_den v, symL_den r]
end
theorem symV_top : ∀ {v : AV}, symV v = .top → v = .top
  | .top, _ => rfl
  | .int .., h => by cases h
  | .sym .., h => by cases h
  | .bool .., h => by cases h
  | .symb .., h => by cases h
  | .nilp, h => by cases h
  | .ptr .., h => by cases h
  | .nils, h => by cases h
  | .xs .., h => by cases h
  | .ss .., h => by cases h
  | .nilm, h => by cases h
  | .map .., h => by cases h
  | .nilf, h => by cases h
  | .func .., h => by cases h
  | .nili, h => by cases h
  | .iface .., h => by cases h
  | .agg l, h => by simp only [symV] at h; cases h
  | .tup l, h => by simp only [symV] at h; cases h
  | .stamp .., h => by cases h
  | .raw .., h => by cases h
def symO : AO → AO
  | .cells wd l => .cells wd (symL l)
  | o => o
theorem symO_ro (o : AO) : (symO o).ro = o.ro := by cases o <;> rfl
theorem symL_get : ∀ (l : List AV) (j : Nat) v, l[j]? = some v → (symL l)[j]? = some (symV v)
  | [], j, v, h => by simp at h
  | a :: r, 0, v, h => by simp at h; simp [symL, h]
  | a :: r, j + 1, v, h => by simp at h; simp [symL]; exact symL_get r j v h
theorem symL_length : ∀ l : List AV, (symL l).length = l.length
  | [] => rfl
  | a :: r => by simp [symL, symL_length r]
theorem symO_rep {P : Program} {ρ : Ren} {w : World} {l : Loc} {o : AO} (h : ObjRep P ρ w l (symO o)) : ObjRep P ρ w l o := by
  cases o with
  | cells wd cs =>
    obtain ⟨h0, h1, h2, c, t, fr, hb, hf, hc, hc2, hv⟩ := h
    refine ⟨h0, h1, h2, c, t, fr, hb, hf, by rw [symL_length] at hc; exact hc, hc2, fun j v hj => ?_⟩
    obtain ⟨x, hx, hr⟩ := hv j _ (symL_get cs j v hj)
    refine ⟨x, hx, ?_⟩
    rcases hr with hr | hr
    · exact .inl (symV_top hr)
    · exact .inr (by rw [← symV_den]; exact hr)
  | arr wd sh ro len f => exact h
  | map t f => exact h
  | mapP t f n k => exact h
def symH : List (Nat × AO) → List (Nat × AO)
  | [] => []
  | (n, o) :: r => (n, symO o) :: symH r
theorem symH_get : ∀ (h : List (Nat × AO)) (n : Nat) o, get h n = some o → get (symH h) n = some (symO o)
  | [], n, o, e => by simp [get] at e
  | (m, x) :: r, n, o, e => by
    simp only [symH, get] at e ⊢
    split at e
    · cases e; rfl
    · exact symH_get r n o e
theorem symH_get' : ∀ (h : List (Nat × AO)) (n : Nat) o, get (symH h) n = some o → ∃ o1, get h n = some o1 ∧ o = symO o1
  | [], n, o, e => by simp [symH, get] at e
  | (m, x) :: r, n, o, e => by
    simp only [symH, get] at e ⊢
    split at e
    · cases e; exact ⟨x, rfl, rfl⟩
    · exact symH_get' r n o e

theorem loc_sym {P : Program} {f : FuncId} {la : List AV} {lh : List (Nat × AO)} {R : LR} (h : LocOk P f la lh R) : LocOk P f (symL la) (symH lh) R := by
  intro ρ w hob hr hf hg xs hx
  have hr' : HeapRep P ρ lh w := by
    refine ⟨fun n o e => ?_, fun n m o o' l l' e e' hne hro => ?_⟩
    · obtain ⟨l, hl, ho⟩ := hr.1 n _ (symH_get _ _ _ e)
      exact ⟨l, hl, symO_rep ho⟩
    · exact hr.2 n m _ _ l l' (symH_get _ _ _ e) (symH_get _ _ _ e') hne (by rw [symO_ro, symO_ro]; exact hro)
  refine (h ρ w hob hr' hf hg xs (by rw [← symL_den]; exact hx)).mono fun e w' ⟨x, ρ', he, hv, st⟩ => ⟨x, ρ', he, hv, ?_⟩
  refine ⟨st.le, st.new, st.rep, st.fr.mono ?_, fun n o l h1 h2 h3 h4 => ?_⟩
  · rintro b ⟨m, hm, o, l, e1, e2, e3⟩
    exact ⟨m, hm, _, l, symH_get _ _ _ e1, by rw [symO_ro]; exact e2, e3⟩
  · obtain ⟨m, o', l', e1, e2, e3⟩ := st.own n o l h1 h2 h3 h4
    exact ⟨m, _, l', symH_get _ _ _ e1, by rw [symO_ro]; exact e2, e3⟩
theorem symL_get' : ∀ (l : List AV) (j : Nat) v, (symL l)[j]? = some v → ∃ u, l[j]? = some u ∧ v = symV u
  | [], j, v, h => by simp [symL] at h
  | a :: r, 0, v, h => by simp [symL] at h; exact ⟨a, by simp, h.symm⟩
  | a :: r, j + 1, v, h => by simp [symL] at h; obtain ⟨u, hu, e⟩ := symL_get' r j v h; exact ⟨u, by simpa using hu, e⟩
theorem symO_rep' {P : Program} {ρ : Ren} {w : World} {l : Loc} {o : AO} (h : ObjRep P ρ w l o) : ObjRep P ρ w l (symO o) := by
  cases o with
  | cells wd cs =>
    obtain ⟨h0, h1, h2, c, t, fr, hb, hf, hc, hc2, hv⟩ := h
    refine ⟨h0, h1, h2, c, t, fr, hb, hf, by rw [symL_length]; exact hc, hc2, fun j v hj => ?_⟩
    obtain ⟨u, hu, rfl⟩ := symL_get' cs j v hj
    obtain ⟨x, hx, hr⟩ := hv j u hu
    refine ⟨x, hx, ?_⟩
    rcases hr with hr | hr
    · subst hr; exact .inl rfl
    · exact .inr (by rw [symV_den]; exact hr)
  | arr wd sh ro len f => exact h
  | map t f => exact h
  | mapP t f n k => exact h
def symR (R : LR) : LR := ⟨R.k, R.v, symH R.heap, R.n, R.wr, R.ob⟩
theorem loc_symR {P : Program} {f : FuncId} {la : List AV} {lh : List (Nat × AO)} {R : LR} (h : LocOk P f la lh R) : LocOk P f (symL la) (symH lh) (symR R) := by
  intro ρ w hob hr hf hg xs hx
  refine (loc_sym h ρ w hob hr hf hg xs hx).mono fun e w' ⟨x, ρ', he, hv, st⟩ => ⟨x, ρ', he, hv, ?_⟩
  refine ⟨st.le, st.new, ⟨fun n o e => ?_, fun n m o o' l l' e e' hne hro => ?_⟩, st.fr, fun n o l h1 h2 h3 h4 => ?_⟩
  · obtain ⟨o1, h1, rfl⟩ := symH_get' _ _ _ e
    obtain ⟨l, hl, ho⟩ := st.rep.1 n o1 h1
    exact ⟨l, hl, symO_rep' ho⟩
  · obtain ⟨o1, h1, rfl⟩ := symH_get' _ _ _ e
    obtain ⟨o2, h2, rfl⟩ := symH_get' _ _ _ e'
    rw [symO_ro, symO_ro] at hro
    exact st.rep.2 n m o1 o2 l l' h1 h2 hne hro
  · obtain ⟨o1, g1, rfl⟩ := symH_get' _ _ _ h1
    obtain ⟨m, o', l', e1, e2, e3⟩ := st.own n o1 l g1 h2 h3 h4
    exact ⟨m, o', l', e1, by rw [symO_ro]; exact e2, e3⟩
/-- .. where the answer is written otherwise. -/
theorem loc_fit {P : Program} {f : FuncId} {la : List AV} {lh : List (Nat × AO)} {R R' : LR} (h : LocOk P f la lh R) (ho : ∀ p ∈ R.ob, p) (e : R' = ⟨R.k, R.v, R.heap, R.n, R.wr, R'.ob⟩) : LocOk P f la lh R' := by
  rw [e]
  intro ρ w _ hr hf hg xs hx
  exact h ρ w ho hr hf hg xs hx
/-- .. as an equation shows it. -/
theorem loc_sym' {P : Program} {f : FuncId} {la la' : List AV} {lh lh' : List (Nat × AO)} {R R' : LR} (h : LocOk P f la lh R) (e1 : symL la = la') (e2 : symH lh = lh') (e3 : R = R') : LocOk P f la' lh' R' := by
  subst e1; subst e2; subst e3; exact loc_sym h
end Go.Ev

/-
  A function that neither the kernel nor the tools unfold.
-/
set_option linter.unusedSimpArgs false
set_option linter.unusedVariables false
namespace Go.Ev
universe u
noncomputable def hide {α : Sort u} (a : α) : α := Classical.choose (⟨a, rfl⟩ : ∃ x, x = a)
theorem hide_eq {α : Sort u} (a : α) : hide a = a := Classical.choose_spec (⟨a, rfl⟩ : ∃ x, x = a)
/-- One of two contracts, by a hint '.n 0' or '.n 1'. -/
def altN (s t : LSpec) : SP := fun args h => match h.hints with
  | .n c :: r => match c with
    | 0 => applyLoc (nrm s) args { h with hints := r }
    | _ => applyLoc (nrm t) args { h with hints := r }
  | _ => none
theorem altN_ok {P : Program} {f : FuncId} {s t : LSpec} (hs : SpecOk P f s) (ht : SpecOk P f t) : SPOk P f (altN s t) := by
  intro args h v h' e
  unfold altN at e
  split at e
  · rename_i c r hr
    split at e
    · have o := applyLoc_ok (nrm_ok hs) e
      exact ⟨⟨o.mono.ob, o.mono.nxt, o.mono.hi, o.mono.wr⟩, fun ho ρ w hr hf hg xs hx => (o.wp ho ρ w hr hf hg xs hx).mono fun e w' ⟨x, ρ', a, b, c⟩ => ⟨x, ρ', a, b, ⟨c.le, c.new, c.rep, c.fr, c.own⟩⟩⟩
    · have o := applyLoc_ok (nrm_ok ht) e
      exact ⟨⟨o.mono.ob, o.mono.nxt, o.mono.hi, o.mono.wr⟩, fun ho ρ w hr hf hg xs hx => (o.wp ho ρ w hr hf hg xs hx).mono fun e w' ⟨x, ρ', a, b, c⟩ => ⟨x, ρ', a, b, ⟨c.le, c.new, c.rep, c.fr, c.own⟩⟩⟩
  · cases e
end Go.Ev
