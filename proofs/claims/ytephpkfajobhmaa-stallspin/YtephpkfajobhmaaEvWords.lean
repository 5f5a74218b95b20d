/-
  EvWords and what follows it.
-/
import Derived.Test.YtephpkfajobhmaaEvMemD
import Derived.Test.YtephpkfajobhmaaEvUse
/-
  The words of a memory, in order: plain definitions and facts.
-/
set_option linter.unusedSimpArgs false
set_option linter.unusedVariables false
namespace Go.Ev

abbrev K3 := Int × Int × Int
/-- Does a key stand ahead of another one? -/
def ltK (x y : K3) : Prop := x.1 < y.1 ∨ x.1 = y.1 ∧ (x.2.1 < y.2.1 ∨ x.2.1 = y.2.1 ∧ x.2.2 < y.2.2)
theorem ltK_irrefl (x : K3) : ¬ ltK x x := by unfold ltK; omega
theorem ltK_trans {x y z : K3} (h1 : ltK x y) (h2 : ltK y z) : ltK x z := by unfold ltK at *; omega
theorem ltK_total {x y : K3} (h1 : ¬ ltK x y) (h2 : ¬ ltK y x) : x = y := by
  unfold ltK at h1 h2
  exact Prod.ext (by omega) (Prod.ext (by omega) (by omega))

/-- A list is the words of f, in order. -/
structure IsWl (f : List Int → Option Int) (l : List (K3 × Int)) : Prop where
  sorted : l.Pairwise (fun x y => ltK x.1 y.1)
  mem : ∀ k v, (k, v) ∈ l ↔ mget f (key k.1 k.2.1 k.2.2) = v ∧ v ≠ 0

theorem sorted_eq : ∀ (l m : List (K3 × Int)), l.Pairwise (fun x y => ltK x.1 y.1) → m.Pairwise (fun x y => ltK x.1 y.1) → (∀ x, x ∈ l ↔ x ∈ m) → l = m
  | [], [], _, _, _ => rfl
  | [], y :: m, _, _, h => by have := (h y).2 (List.mem_cons_self ..); cases this
  | x :: l, [], _, _, h => by have := (h x).1 (List.mem_cons_self ..); cases this
  | x :: l, y :: m, hl, hm, h => by
    obtain ⟨a1, a2⟩ := List.pairwise_cons.1 hl
    obtain ⟨b1, b2⟩ := List.pairwise_cons.1 hm
    have exy : x = y := by
      rcases List.mem_cons.1 ((h x).1 (List.mem_cons_self ..)) with e | e
      · exact e
      · rcases List.mem_cons.1 ((h y).2 (List.mem_cons_self ..)) with e2 | e2
        · exact e2.symm
        · exact (ltK_irrefl _ (ltK_trans (a1 y e2) (b1 x e))).elim
    subst exy
    rw [sorted_eq l m a2 b2 (fun z => ?_)]
    constructor
    · intro hz
      rcases List.mem_cons.1 ((h z).1 (List.mem_cons_of_mem _ hz)) with e | e
      · subst e; exact (ltK_irrefl _ (a1 z hz)).elim
      · exact e
    · intro hz
      rcases List.mem_cons.1 ((h z).2 (List.mem_cons_of_mem _ hz)) with e | e
      · subst e; exact (ltK_irrefl _ (b1 z hz)).elim
      · exact e
theorem IsWl.unique {f : List Int → Option Int} {l m : List (K3 × Int)} (h : IsWl f l) (h' : IsWl f m) : l = m :=
  sorted_eq l m h.sorted h'.sorted (fun ⟨k, v⟩ => (h.mem k v).trans (h'.mem k v).symm)
theorem IsWl.congr {f g : List Int → Option Int} {l : List (K3 × Int)} (h : IsWl f l) (e : ∀ k a b, mget g (key k a b) = mget f (key k a b)) : IsWl g l := ⟨h.sorted, fun k v => by rw [e]; exact h.mem k v⟩

open Classical in
/-- The words of f, in order. -/
noncomputable def wlF (f : List Int → Option Int) : List (K3 × Int) := if h : ∃ l, IsWl f l then Classical.choose h else []
theorem wlF_eq {f : List Int → Option Int} {l : List (K3 × Int)} (h : IsWl f l) : wlF f = l := by
  have hex : ∃ l, IsWl f l := ⟨l, h⟩
  unfold wlF
  rw [dif_pos hex]
  exact (Classical.choose_spec hex).unique h

def wdAt (l : List (K3 × Int)) (i : Nat) : Wd := match l[i]? with
  | some x => ⟨x.1.1, x.1.2.1, x.1.2.2, x.2⟩
  | none => ⟨0, 0, 0, 0⟩

/-- It has no more than so many entries. -/
def FinM (f : List Int → Option Int) (n : Nat) : Prop := ∃ l : List (List Int), l.length ≤ n ∧ ∀ k v, f k = some v → k ∈ l
theorem FinM.nil (n : Nat) : FinM (fun _ => none) n := ⟨[], Nat.zero_le _, fun k v h => by cases h⟩
theorem FinM.mono {f : List Int → Option Int} {n m : Nat} (h : FinM f n) (hm : n ≤ m) : FinM f m := let ⟨l, h1, h2⟩ := h; ⟨l, Nat.le_trans h1 hm, h2⟩
theorem FinM.set {f : List Int → Option Int} {n : Nat} (h : FinM f n) (k : List Int) (v : Option Int) : FinM (setKey f k v) (n + 1) := by
  obtain ⟨l, h1, h2⟩ := h
  refine ⟨k :: l, by simp; omega, fun q u hq => ?_⟩
  unfold setKey at hq
  split at hq
  · rename_i e; subst e; exact List.mem_cons_self ..
  · exact List.mem_cons_of_mem _ (h2 q u hq)
theorem FinM.put {f : List Int → Option Int} {n : Nat} (h : FinM f n) (k a b v : Int) : FinM (memPut f k a b v) (n + 1) := by
  unfold memPut
  split
  · exact h.set _ _
  · exact h.mono (by omega)
theorem FinM.cas {f : List Int → Option Int} {n : Nat} (h : FinM f n) (k a b w v : Int) : FinM (casM f k a b w v) (n + 1) := by
  unfold casM
  split
  · exact h.set _ _
  · exact h.mono (by omega)

theorem nodup_len : ∀ (a b : List (List Int)), a.Nodup → (∀ x ∈ a, x ∈ b) → a.length ≤ b.length
  | [], b, _, _ => Nat.zero_le _
  | x :: r, b, hn, hs => by
    obtain ⟨h1, h2⟩ := List.nodup_cons.1 hn
    have hx := hs x (List.mem_cons_self ..)
    have := nodup_len r (b.erase x) h2 (fun y hy => (List.mem_erase_of_ne (fun e => h1 (by rw [← e]; exact hy))).2 (hs y (List.mem_cons_of_mem _ hy)))
    rw [List.length_erase_of_mem hx] at this
    have : 0 < b.length := List.length_pos_of_mem hx
    simp; omega
end Go.Ev

/-
  A closed call that leaves obligations; the words of a memory as a list.
-/
set_option linter.unusedSimpArgs false
set_option linter.unusedVariables false
namespace Go.Ev
theorem closed_okG {E : Env} (hE : EnvOk E) {fuel f nxt : Nat} {v : AV} {h1 : Hp} (hc : callF E fuel f [] ⟨[], nxt, gnm 0, [], [], [], true⟩ = some (v, h1)) (hob : ∀ p ∈ h1.ob, p) (hv : scalar v = true) (h : Hp) :
    CaOk E.P f [] h v h := by
  refine ⟨Mono.refl h, fun _ ρ w hr hf hg xs hx => ?_⟩
  simp [denL] at hx
  subst hx
  let ρ0 : Ren := fun n => if gnm 0 ≤ n then ρ n else none
  have g0 : GOk ρ0 := fun g => by
    obtain ⟨l, hl, r⟩ := hg g
    have hg0 : gnm 0 ≤ gnm g := by unfold gnm; omega
    exact ⟨l, by simp [ρ0, hg0, hl], r⟩
  have := ((all_ok hE fuel).ca f [] _ v h1 hc).wp hob ρ0 w ⟨fun n o e => by simp [get] at e, fun n m o o' l l' e => by simp [get] at e⟩
    (fun n h1 h2 => by simp at h1 h2; simp [ρ0]; omega) g0 [] rfl
  refine this.mono fun e w' ⟨x, ρ', he, hx, hs⟩ => ⟨x, ρ, he, scalar_rel hv hx, ?_⟩
  have same : ∀ b, b < w.heap.size → w'.heap[b]? = w.heap[b]? := fun b hb => hs.fr.same b hb (fun ⟨m, hm, o, l, e, _⟩ => by simp [get] at e)
  refine ⟨Le.refl ρ, fun n l a b => (by rw [a] at b; cases b), ⟨fun n o e => ?_, hr.2⟩, ⟨hs.fr.size, fun b hb _ => same b hb, hs.fr.tape, hs.fr.os, hs.fr.output⟩, fun n o l a b c _ => ⟨n, o, l, a, rfl, b, c, rfl, .inl rfl⟩⟩
  obtain ⟨l, hl, ho⟩ := hr.1 n o e
  exact ⟨l, hl, ho.keep (Le.refl ρ) (fun hc => same _ (ho.lt hc))⟩
/-- A closed call as a contract; what it leaves is shown. -/
theorem lives_of_runG {E : Env} (hE : EnvOk E) {fuel f : Nat} {v : AV} {obs : List Prop} (hv : v = .bool true ∨ v = .symb true) (h : (callF E fuel f [] ⟨[], 0, gnm 0, [], [], [], true⟩).map (fun x => (x.1, x.2.ob)) = some (v, obs)) (hob : ∀ p ∈ obs, p) : LocOk E.P f [] [] ⟨0, .bool true, [], 0, [], []⟩ := by
  intro ρ w _ hr hf hg xs hx
  cases hc : callF E fuel f [] ⟨[], 0, gnm 0, [], [], [], true⟩ with
  | none => rw [hc] at h; cases h
  | some y =>
    rw [hc] at h
    simp only [Option.map_some, Option.some.injEq, Prod.mk.injEq] at h
    obtain ⟨u, h1⟩ := y
    obtain ⟨rfl, h2⟩ := h
    have hsc : scalar u = true := by rcases hv with e | e <;> (have e : u = _ := e; rw [e]; rfl)
    refine ((closed_okG hE hc (by rw [h2]; exact hob) hsc ⟨[], 1, gnm 0, [], [], [], false⟩).wp (fun p hp => by cases hp) ρ w hr hf hg xs hx).mono fun e w' ⟨x, ρ', he, r, hs⟩ => ⟨x, ρ', he, ?_, hs⟩
    rcases hv with e | e
    · have e : u = _ := e
      rw [e] at r; exact r
    · have e : u = _ := e
      rw [e] at r
      exact r.imp (fun h => by cases h) (fun e => by simpa [den] using e)
/-- No words, one word. -/
theorem wlF_nil {f : List Int → Option Int} (h : ∀ k a b, mget f (key k a b) = 0) : wlF f = [] :=
  wlF_eq ⟨List.Pairwise.nil, fun k v => ⟨(fun h => by cases h), fun ⟨e, hz⟩ => by rw [h] at e; exact (hz e.symm).elim⟩⟩
theorem wlF_one {f : List Int → Option Int} {k a b v : Int} (h : ∀ k' a' b', mget f (key k' a' b') = if k' = k ∧ a' = a ∧ b' = b then v else 0) (hv : v ≠ 0) : wlF f = [((k, a, b), v)] :=
  wlF_eq ⟨List.pairwise_cons.2 ⟨(fun _ h => by cases h), List.Pairwise.nil⟩, fun x u => by
    obtain ⟨x1, x2, x3⟩ := x
    rw [h]
    simp only [List.mem_singleton, Prod.mk.injEq]
    constructor
    · rintro ⟨⟨e1, e2, e3⟩, e4⟩; exact ⟨by rw [if_pos ⟨e1, e2, e3⟩, e4], by rw [e4]; exact hv⟩
    · rintro ⟨e, hu⟩
      split at e
      · rename_i hh; exact ⟨hh, e.symm⟩
      · exact (hu e.symm).elim⟩
theorem mget_none (k : List Int) : mget (fun _ => none) k = 0 := rfl
end Go.Ev

/-
  MemsOne in plain words.
-/
set_option linter.unusedSimpArgs false
set_option linter.unusedVariables false
namespace Go.Ev
theorem may_le {k a f : Int} (h : mayA k a f = true) : k ≤ 11 ∧ 0 ≤ a ∧ a < kAt k ∧ 0 ≤ f ∧ f < kFl k := by
  unfold mayA at h; exact of_decide_eq_true h
theorem kAt_pos (k : Int) : 0 < kAt k := by unfold kAt; repeat (split; · omega); omega
theorem kFl_pos (k : Int) : 0 < kFl k := by unfold kFl; repeat (split; · omega); omega
theorem tmod_in {x n : Int} (h : 0 ≤ x) (hn : 0 < n) : 0 ≤ x.tmod n ∧ x.tmod n < n := by
  rw [Int.tmod_eq_emod_of_nonneg h]
  exact ⟨Int.emod_nonneg _ (by omega), Int.emod_lt_of_pos _ hn⟩
theorem addr_may {x y z : Int} (hx : 0 ≤ x ∧ x < 256) (hy : 0 ≤ y ∧ y < 256) (hz : 0 ≤ z ∧ z < 256) : mayA (x.tmod 12) (y.tmod (kAt (x.tmod 12))) (z.tmod (kFl (x.tmod 12))) = true := by
  have h1 := tmod_in hx.1 (n := 12) (by decide)
  have h2 := tmod_in hy.1 (kAt_pos (x.tmod 12))
  have h3 := tmod_in hz.1 (kFl_pos (x.tmod 12))
  unfold mayA
  exact decide_eq_true ⟨by omega, h2.1, h2.2, h3.1, h3.2⟩
theorem casD_may {M : List Int → Option Int} {k a f w : Int} (h : mayA k a f = true) : casD M k a f w = (mget M (key k a f) == w) := by
  unfold casD
  cases (mget M (key k a f) == w) <;> simp [h]
theorem mo_plain {k a f k' a' f' v0 v1 v2 : Int} (ha : mayA k a f = true) (hb : mayA k' a' f' = true) (hne : ¬ (k = k' ∧ a = a' ∧ f = f')) (hv : 0 ≤ v0 ∧ v0 < 18446744073709551616) :
    casD (memPut (memPut (fun _ => none) k a f v0) k' a' f' v1) k' a' f' v1 = true ∧
    casD (casM (memPut (memPut (fun _ => none) k a f v0) k' a' f' v1) k' a' f' v1 v2) k a f (IntKind.u64.wrap (v0 + 1)) = false ∧
    mget (casM (casM (memPut (memPut (fun _ => none) k a f v0) k' a' f' v1) k' a' f' v1 v2) k a f (IntKind.u64.wrap (v0 + 1)) v2) (key k a f) = v0 ∧
    mget (casM (casM (memPut (memPut (fun _ => none) k a f v0) k' a' f' v1) k' a' f' v1 v2) k a f (IntKind.u64.wrap (v0 + 1)) v2) (key k' a' f') = v2 ∧
    (∀ x y z, mget (memPut (casM (casM (memPut (memPut (fun _ => none) k a f v0) k' a' f' v1) k' a' f' v1 v2) k a f (IntKind.u64.wrap (v0 + 1)) v2) k' a' f' 0) (key x y z) = if x = k ∧ y = a ∧ z = f then v0 else 0) ∧
    FinM (memPut (casM (casM (memPut (memPut (fun _ => none) k a f v0) k' a' f' v1) k' a' f' v1 v2) k a f (IntKind.u64.wrap (v0 + 1)) v2) k' a' f' 0) 1000000 := by
  have hw : IntKind.u64.wrap (v0 + 1) ≠ v0 := by
    show (v0 + 1) % 18446744073709551616 ≠ v0
    omega
  have d1 : casD (memPut (memPut (fun _ => none) k a f v0) k' a' f' v1) k' a' f' v1 = true := by
    rw [casD_may hb, mget_put, if_pos ⟨hb, rfl, rfl, rfl⟩]; simp
  have g1 : ∀ x y z, mget (casM (memPut (memPut (fun _ => none) k a f v0) k' a' f' v1) k' a' f' v1 v2) (key x y z) = if x = k' ∧ y = a' ∧ z = f' then v2 else if x = k ∧ y = a ∧ z = f then v0 else 0 := fun x y z => by
    rw [casM_put, if_pos d1, mget_put, mget_put, mget_put]
    simp only [ha, hb, true_and, mget_none]
    split <;> rfl
  have d2 : casD (casM (memPut (memPut (fun _ => none) k a f v0) k' a' f' v1) k' a' f' v1 v2) k a f (IntKind.u64.wrap (v0 + 1)) = false := by
    rw [casD_may ha, g1, if_neg hne, if_pos ⟨rfl, rfl, rfl⟩]
    simp; exact fun e => hw e.symm
  have g2 : casM (casM (memPut (memPut (fun _ => none) k a f v0) k' a' f' v1) k' a' f' v1 v2) k a f (IntKind.u64.wrap (v0 + 1)) v2 = casM (memPut (memPut (fun _ => none) k a f v0) k' a' f' v1) k' a' f' v1 v2 := by
    rw [casM_put, if_neg (by rw [d2]; decide)]
  refine ⟨d1, d2, ?_, ?_, fun x y z => ?_, ?_⟩
  · rw [g2, g1, if_neg hne, if_pos ⟨rfl, rfl, rfl⟩]
  · rw [g2, g1, if_pos ⟨rfl, rfl, rfl⟩]
  · rw [mget_put, g2, g1]
    simp only [hb, true_and]
    by_cases h1 : x = k' ∧ y = a' ∧ z = f'
    · rw [if_pos h1, if_neg (fun h2 => hne ⟨h2.1.symm.trans h1.1, h2.2.1.symm.trans h1.2.1, h2.2.2.symm.trans h1.2.2⟩)]
    · rw [if_neg h1, if_neg h1]
  · exact (((((FinM.nil 0).put _ _ _ _).put _ _ _ _).cas _ _ _ _ _).cas _ _ _ _ _ |>.put _ _ _ _).mono (by decide)
end Go.Ev
