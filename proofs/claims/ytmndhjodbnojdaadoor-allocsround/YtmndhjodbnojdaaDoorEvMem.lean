/-
  EvMem and what follows it.
-/
import Derived.Test.YtmndhjodbnojdaaDoorEvRen
/-
  How memory is read, written and made: the soundness of the evaluator, second part.
-/
set_option linter.unusedSimpArgs false
set_option linter.unusedVariables false
namespace Go.Ev

/-! ### small runs -/
section
variable {P : Program} {w : World}

theorem run_underlying' {t : TypeId} {d : TypeDesc} (h : P.underlying t = some d) : (underlying t).run P w = .ok d w := by
  simp [underlying, h]

theorem run_sizeOf {t : TypeId} {n : Nat} (h : sizeT P t = some n) : (sizeOf t).run P w = .ok n w := by
  unfold sizeT at h
  cases hi : P.info? t with
  | none => simp [hi] at h
  | some i => simp [hi] at h; simp [sizeOf, typeInfo, hi, h]

theorem run_isAgg {t : TypeId} {b : Bool} (h : isAggT P t = some b) : (isAgg t).run P w = .ok b w := by
  unfold isAggT at h
  split at h
  · rename_i hu; cases h; simp [isAgg, run_underlying' hu]
  · rename_i hu; cases h; simp [isAgg, run_underlying' hu]
  · rename_i d h1 h2 hu; cases h
    simp only [isAgg, Sem.run_bind, run_underlying' hu, Result.andThen_ok]
    cases d <;> simp_all
  · cases h

theorem run_zero {t : TypeId} {z : AV} (h : zeroT P t = some z) : ∃ v, (zeroValue t).run P w = .ok v w ∧ z = ofVal v := by
  unfold zeroT at h
  split at h
  · rename_i i hi
    split at h
    · rename_i v hv; cases h; exact ⟨v, by simp [zeroValue, typeInfo, hi, hv], rfl⟩
    · cases h
  · cases h
end

/-! ### abstract steps that leave memory alone -/
structure Qt (h h' : Hp) : Prop where
  heap : h'.heap = h.heap
  nxt : h'.nxt = h.nxt
  hi : h'.hi = h.hi
  wr : h'.wr = h.wr
  ob : ∀ p ∈ h.ob, p ∈ h'.ob

theorem Qt.refl (h : Hp) : Qt h h := ⟨rfl, rfl, rfl, rfl, fun _ x => x⟩
theorem Qt.trans {h h' h'' : Hp} (a : Qt h h') (b : Qt h' h'') : Qt h h'' :=
  ⟨b.heap.trans a.heap, b.nxt.trans a.nxt, b.hi.trans a.hi, b.wr.trans a.wr, fun p x => b.ob p (a.ob p x)⟩
theorem Qt.mono {h h' : Hp} (a : Qt h h') : Mono h h' := ⟨a.ob, Nat.le_of_eq a.nxt.symm, a.hi, fun n x => by rw [a.wr]; exact x⟩

theorem need_qt {h h' : Hp} {b : Bool} (e : h.need b = some h') : Qt h h' ∧ ((∀ p ∈ h'.ob, p) → b = true) := by
  unfold Hp.need at e
  split at e
  · split at e
    · cases e; exact ⟨.refl _, fun _ => rfl⟩
    · cases e
  · cases e; exact ⟨⟨rfl, rfl, rfl, rfl, fun p hp => List.mem_cons_of_mem _ hp⟩, fun ho => ho _ (List.mem_cons_self ..)⟩

theorem check_qt {h h' : Hp} {c b : Bool} (e : h.check c b = some h') : Qt h h' ∧ ((∀ p ∈ h'.ob, p) → b = true) := by
  unfold Hp.check at e
  split at e
  · split at e
    · cases e; exact ⟨.refl _, fun _ => rfl⟩
    · cases e
  · exact need_qt e

theorem dec_qt {h h' : Hp} {v : AV} {b : Bool} (e : h.dec v = some (b, h')) : Qt h h' ∧ ((∀ p ∈ h'.ob, p) → v = .bool b ∨ v = .symb b) := by
  unfold Hp.dec at e
  split at e
  · cases e; exact ⟨.refl _, fun _ => .inl rfl⟩
  · split at e
    · split at e
      · cases e; exact ⟨⟨rfl, rfl, rfl, rfl, fun p hp => hp⟩, fun _ => .inr rfl⟩
      · split at e
        · cases e
          refine ⟨⟨rfl, rfl, rfl, rfl, fun p hp => List.mem_cons_of_mem _ hp⟩, fun ho => .inr ?_⟩
          have := ho _ (List.mem_cons_self ..)
          rw [this]
        · cases e
        · split at e
          · cases e; exact ⟨.refl _, fun _ => .inr rfl⟩
          · cases e
    · split at e
      · cases e; exact ⟨.refl _, fun _ => .inr rfl⟩
      · split at e
        · cases e
          refine ⟨⟨rfl, rfl, rfl, rfl, fun p hp => List.mem_cons_of_mem _ hp⟩, fun ho => .inr ?_⟩
          have := ho _ (List.mem_cons_self ..)
          rw [this]
        · cases e
  · cases e

theorem literal_qt {h h' : Hp} {v : AV} {m : Nat} (e : h.literal v = some (m, h')) : Qt h h' ∧ ((∀ p ∈ h'.ob, p) → ∃ k, v = .int k (m : Int) ∨ v = .sym k (m : Int)) := by
  unfold Hp.literal at e
  split at e
  · split at e
    · cases e; exact ⟨.refl _, fun _ => ⟨_, .inl rfl⟩⟩
    · cases e
  · split at e
    · split at e
      · split at e
        · cases e; exact ⟨⟨rfl, rfl, rfl, rfl, fun p hp => hp⟩, fun _ => ⟨_, .inr rfl⟩⟩
        · cases e
      · split at e
        · cases e
          refine ⟨⟨rfl, rfl, rfl, rfl, fun p hp => List.mem_cons_of_mem _ hp⟩, fun ho => ?_⟩
          have := ho _ (List.mem_cons_self ..)
          exact ⟨_, .inr (by rw [this]; rfl)⟩
        · split at e
          · split at e
            · cases e; exact ⟨.refl _, fun _ => ⟨_, .inr rfl⟩⟩
            · cases e
          · cases e
    · split at e
      · split at e
        · cases e; exact ⟨.refl _, fun _ => ⟨_, .inr rfl⟩⟩
        · cases e
      · split at e
        · cases e
          refine ⟨⟨rfl, rfl, rfl, rfl, fun p hp => List.mem_cons_of_mem _ hp⟩, fun ho => ?_⟩
          have := ho _ (List.mem_cons_self ..)
          exact ⟨_, .inr (by rw [this]; rfl)⟩
        · cases e
  · cases e

theorem asI_den {ρ : Ren} {v : AV} {k : IntKind} {c : Bool} {n : Int} (h : asI v = some (k, c, n)) : den ρ v = some (.int k n) ∧ v ≠ .top := by
  unfold asI at h
  split at h <;> cases h <;> simp [den]

theorem asB_den {ρ : Ren} {v : AV} {c b : Bool} (h : asB v = some (c, b)) : den ρ v = some (.bool b) ∧ v ≠ .top := by
  unfold asB at h
  split at h <;> cases h <;> simp [den]

theorem mkI_den {ρ : Ren} {k : IntKind} {c : Bool} {n : Int} : den ρ (mkI k c n) = some (.int k n) := by cases c <;> simp [mkI, den]
theorem mkB_den {ρ : Ren} {c b : Bool} : den ρ (mkB c b) = some (.bool b) := by cases c <;> simp [mkB, den]

theorem index_qt {h h' : Hp} {v : AV} {b m : Nat} (e : h.index v b = some (m, h')) : Qt h h' ∧ ((∀ p ∈ h'.ob, p) → m < b ∧ ∃ k, v = .int k (m : Int) ∨ v = .sym k (m : Int)) := by
  unfold Hp.index at e
  split at e
  · rename_i k c n hn
    split at e
    · rename_i h1 he
      cases e
      have := need_qt he
      refine ⟨this.1, fun ho => ?_⟩
      have h2 := this.2 ho
      simp [Nat.blt_eq] at h2
      refine ⟨h2.1, k, ?_⟩
      unfold asI at hn
      split at hn <;> cases hn
      · left; congr 1; omega
      · right; congr 1; omega
    · cases e
  · cases e

theorem bound_qt {h h' : Hp} {ex : Bool} {v : AV} {b m : Nat} (e : bound ex v b h = some (m, h')) : Qt h h' ∧ ((∀ p ∈ h'.ob, p) → m ≤ b ∧ ∃ k, v = .int k (m : Int) ∨ v = .sym k (m : Int)) := by
  unfold bound at e
  split at e
  · split at e
    · rename_i m' h1 he
      split at e
      · rename_i hle
        cases e
        have := literal_qt he
        exact ⟨this.1, fun ho => ⟨by simpa using hle, this.2 ho⟩⟩
      · cases e
    · cases e
  · split at e
    · rename_i k c n hn
      split at e
      · rename_i h1 he
        cases e
        have := need_qt he
        refine ⟨this.1, fun ho => ?_⟩
        have h2 := this.2 ho
        simp at h2
        refine ⟨by omega, k, ?_⟩
        unfold asI at hn
        split at hn <;> cases hn
        · left; congr 1; omega
        · right; congr 1; omega
      · cases e
    · cases e

/-! ### renamings -/
def Ren.set (ρ : Ren) (n : Nat) (l : Loc) : Ren := fun m => if m = n then some l else ρ m

theorem Ren.set_same (ρ : Ren) (n : Nat) (l : Loc) : ρ.set n l n = some l := by simp [Ren.set]
theorem Ren.le_set {ρ : Ren} {n : Nat} {l : Loc} (h : ρ n = none) : Le ρ (ρ.set n l) := by
  intro m l' e
  have : m ≠ n := fun x => by subst x; rw [h] at e; cases e
  simp [Ren.set, this, e]

theorem HeapRep.obj {P : Program} {ρ : Ren} {heap : List (Nat × AO)} {w : World} (h : HeapRep P ρ heap w) {b : Nat} {o : AO} (e : get heap b = some o) {l : Loc} (hl : ρ b = some l) : ObjRep P ρ w l o := by
  obtain ⟨l', h1, h2⟩ := h.1 b o e
  rw [hl] at h1; cases h1; exact h2

/-- Another object in the place of one. -/
theorem HeapRep.put {P : Program} {ρ : Ren} {heap : List (Nat × AO)} {w w' : World} (h : HeapRep P ρ heap w) {b : Nat} {o o' : AO} (e : get heap b = some o) (ro : o.ro = false) (ro' : o'.ro = false) {l : Loc} (hl : ρ b = some l) (hc : l.cap ≠ 0)
    (hs : ∀ k, k ≠ l.blk → w'.heap[k]? = w.heap[k]?) (ho : ObjRep P ρ w' l o') : HeapRep P ρ (set heap b o') w' := by
  refine ⟨fun n x hn => ?_, fun n m x y l1 l2 hn hm hne hro h1 h2 c1 c2 => ?_⟩
  · rw [get_set] at hn
    by_cases hnb : n = b
    · subst hnb; simp at hn; subst hn; exact ⟨l, hl, ho⟩
    · simp [hnb] at hn
      obtain ⟨l', hl', hx⟩ := h.1 n x hn
      exact ⟨l', hl', hx.keep (Le.refl ρ) (fun c => hs _ (h.2 n b x o l' l hn e hnb (by rw [ro, Bool.and_false]) hl' hl c hc))⟩
  · have key : ∀ n x, get (Ev.set heap b o') n = some x → ∃ x', get heap n = some x' ∧ x'.ro = x.ro := by
      intro n x hn
      rw [get_set] at hn
      by_cases hnb : n = b
      · subst hnb; simp at hn; subst hn; exact ⟨o, e, ro.trans ro'.symm⟩
      · simp [hnb] at hn; exact ⟨x, hn, rfl⟩
    obtain ⟨x', hx', rx⟩ := key n x hn
    obtain ⟨y', hy', ry⟩ := key m y hm
    exact h.2 n m x' y' l1 l2 hx' hy' hne (by rw [rx, ry]; exact hro) h1 h2 c1 c2

/-- A new object. -/
theorem HeapRep.new {P : Program} {ρ : Ren} {heap : List (Nat × AO)} {w w' : World} (h : HeapRep P ρ heap w) {n : Nat} {o : AO} {l : Loc} (hf : ρ n = none) (hb : l.blk = w.heap.size)
    (hs : ∀ k, k < w.heap.size → w'.heap[k]? = w.heap[k]?) (ho : ObjRep P (ρ.set n l) w' l o) : HeapRep P (ρ.set n l) ((n, o) :: heap) w' := by
  have hle := Ren.le_set (l := l) hf
  have old : ∀ m x, m ≠ n → get ((n, o) :: heap) m = some x → get heap m = some x := by
    intro m x hm hx
    have : Nat.beq n m = false := by rw [← Bool.not_eq_true, Nat.beq_eq]; exact fun e => hm e.symm
    simpa [get, this] using hx
  refine ⟨fun m x hm => ?_, fun m k x y l1 l2 hm hk hne hro h1 h2 c1 c2 => ?_⟩
  · by_cases hmn : m = n
    · subst hmn; simp [get] at hm; subst hm; exact ⟨l, Ren.set_same ρ m l, ho⟩
    · obtain ⟨l', hl', hx⟩ := h.1 m x (old m x hmn hm)
      exact ⟨l', hle _ _ hl', hx.keep hle (fun c => hs _ (hx.lt c))⟩
  · by_cases hmn : m = n
    · subst hmn
      rw [Ren.set_same] at h1; cases h1
      obtain ⟨l', hl', hx⟩ := h.1 k y (old k y (Ne.symm hne) hk)
      rw [hle _ _ hl'] at h2; cases h2
      have := hx.lt c2
      rw [hb]; omega
    · obtain ⟨l1', hl1, hx1⟩ := h.1 m x (old m x hmn hm)
      rw [hle _ _ hl1] at h1; cases h1
      by_cases hkn : k = n
      · subst hkn
        rw [Ren.set_same] at h2; cases h2
        have := hx1.lt c1
        rw [hb]; omega
      · obtain ⟨l2', hl2, hx2⟩ := h.1 k y (old k y hkn hk)
        rw [hle _ _ hl2] at h2; cases h2
        exact h.2 m k x y _ _ (old m x hmn hm) (old k y hkn hk) hne hro hl1 hl2 c1 c2

theorem HeapRep.del {P : Program} {ρ : Ren} {heap : List (Nat × AO)} {w : World} (h : HeapRep P ρ heap w) (b : Nat) : HeapRep P ρ (del heap b) w := by
  have key : ∀ n x, get (Ev.del heap b) n = some x → get heap n = some x := by
    intro n x hn
    rw [get_del] at hn
    by_cases hnb : n = b
    · simp [hnb] at hn
    · simpa [hnb] using hn
  exact ⟨fun n x hn => h.1 n x (key n x hn), fun n m x y l1 l2 hn hm => h.2 n m x y l1 l2 (key n x hn) (key m y hm)⟩

/-- The facts of a new name. -/
theorem new_spec {h h' : Hp} {o : AO} {n : Nat} (e : h.new o = some (n, h')) : n = h.nxt ∧ h.nxt < h.hi ∧ h' = { h with heap := (h.nxt, o) :: h.heap, nxt := h.nxt + 1 } := by
  unfold Hp.new at e
  split at e
  · rename_i hlt; cases e; exact ⟨rfl, by simpa [Nat.blt_eq] using hlt, rfl⟩
  · cases e

theorem new_mono {h h' : Hp} {o : AO} {n : Nat} (e : h.new o = some (n, h')) : Mono h h' := by
  obtain ⟨_, _, rfl⟩ := new_spec e
  exact ⟨fun _ x => x, by simp, rfl, fun _ x => x⟩

theorem new_ob {h h' : Hp} {o : AO} {n : Nat} (e : h.new o = some (n, h')) : h'.ob = h.ob := by obtain ⟨_, _, rfl⟩ := new_spec e; rfl

/-- A new block stands for a new object. -/
theorem new_step {P : Program} {ρ : Ren} {h h' : Hp} {w : World} {o : AO} {n : Nat} (e : h.new o = some (n, h')) (hr : HeapRep P ρ h.heap w) (hf : Fresh ρ h.nxt h.hi) (x : Obj) (l : Loc) (hb : l.blk = w.heap.size)
    (ho : ObjRep P (ρ.set n l) (w.alloc x) l o) : Step P ρ h w (ρ.set n l) h' (w.alloc x) ∧ ρ n = none := by
  obtain ⟨rfl, hlt, rfl⟩ := new_spec e
  have hn : ρ h.nxt = none := hf _ (Nat.le_refl _) hlt
  refine ⟨⟨Ren.le_set hn, ?_, HeapRep.new hr hn hb (fun k hk => heap_alloc_old w x hk) ho, ?_, ?_⟩, hn⟩
  · intro m l' e1 e2
    by_cases hm : m = h.nxt
    · subst hm; exact ⟨Nat.le_refl _, by simp⟩
    · simp [Ren.set, hm, e1] at e2
  · exact ⟨by simp, fun b hb _ => heap_alloc_old w x hb, rfl, rfl, rfl⟩
  · intro m o' l' h1 h2 h3 h4
    by_cases hm : m = h.nxt
    · subst hm; rw [Ren.set_same] at h2; cases h2; omega
    · have h1' : get h.heap m = some o' := by
        have : Nat.beq h.nxt m = false := by rw [← Bool.not_eq_true, Nat.beq_eq]; exact fun e => hm e.symm
        simpa [get, this] using h1
      obtain ⟨l0, hl0⟩ := hr.loc h1'
      rw [Ren.le_set hn m l0 hl0] at h2; cases h2
      exact ⟨m, o', _, h1', rfl, hl0, h3, rfl, .inl rfl⟩

/-- Another object in the place of one. -/
theorem put_step {P : Program} {ρ : Ren} {h : Hp} {w w' : World} {b : Nat} {o o' : AO} {l : Loc} (hr : HeapRep P ρ h.heap w) (e : get h.heap b = some o) (ro : o.ro = false) (ro' : o'.ro = false) (hl : ρ b = some l) (hc : l.cap ≠ 0)
    (hs : ∀ k, k ≠ l.blk → w'.heap[k]? = w.heap[k]?) (hsz : w.heap.size ≤ w'.heap.size) (ht : w'.tape = w.tape) (hos : w'.os = w.os) (hout : w'.output = w.output) (ho : ObjRep P ρ w' l o') : Step P ρ h w ρ (h.put b o') w' where
  le := Le.refl ρ
  new := fun n l a b => (by rw [a] at b; cases b)
  rep := HeapRep.put hr e ro ro' hl hc hs ho
  fr := ⟨hsz, fun k _ hn => hs k (fun x => hn ⟨b, mem_add.2 (.inl rfl), o, l, e, ro, hl, hc, x.symm⟩), ht, hos, hout⟩
  own := fun n o1 l1 h1 h2 h3 _ => by
    have h1' : get (set h.heap b o') n = some o1 := h1
    rw [get_set] at h1'
    by_cases hn : n = b
    · subst hn; simp at h1'; subst h1'; exact ⟨n, o, l1, e, ro.trans ro'.symm, h2, h3, rfl, .inl rfl⟩
    · simp [hn] at h1'; exact ⟨n, o1, l1, h1', rfl, h2, h3, rfl, .inl rfl⟩

/-! ### reading -/
theorem ofCell_ok {ρ : Ren} {k : CK} {x v : AV} {h h' : Hp} (e : ofCell k x h = some (v, h')) : Qt h h' ∧ ((∀ p ∈ h'.ob, p) → kindOk k x → ∀ y, den ρ x = some y → den ρ v = some y) ∧ v.oneCell = true := by
  unfold ofCell at e
  split at e
  · cases e
    refine ⟨.refl _, fun _ hk y hy => ?_, rfl⟩
    obtain ⟨n, rfl | rfl⟩ := hk <;> simpa [den, avInt] using hy
  · cases e
    refine ⟨.refl _, fun _ hk y hy => ?_, rfl⟩
    obtain ⟨n, rfl | rfl⟩ := hk <;> simpa [den, avBool] using hy
  · split at e
    · split at e
      · rename_i h1
        cases e
        refine ⟨⟨rfl, rfl, rfl, rfl, fun p hp => List.mem_cons_of_mem _ hp⟩, fun ho _ y hy => ?_, h1⟩
        have := ho _ (List.mem_cons_self ..)
        rw [← this]; exact hy
      · cases e
    · split at e
      · rename_i h1; cases e; exact ⟨.refl _, fun _ _ y hy => hy, h1⟩
      · cases e

theorem rowCells_ok {ρ : Ren} {sh : List CK} {f : Nat → AV} : ∀ (n : Nat) (j : Nat) (h h' : Hp) (l : List AV), rowCells sh f h n j = some (l, h') →
    Qt h h' ∧ l.length = n ∧ (∀ v ∈ l, v.oneCell = true) ∧ ((∀ p ∈ h'.ob, p) → (∀ (k : Nat) c, sh[k]? = some c → kindOk c (f k) ∧ ∃ x, den ρ (f k) = some x) →
      ∀ (k : Nat) v, l[k]? = some v → j + k < sh.length ∧ ∀ x, den ρ (f (j + k)) = some x → den ρ v = some x)
  | 0, j, h, h', l, e => by
    simp only [rowCells] at e; cases e
    exact ⟨.refl _, rfl, by simp, fun _ _ k v hk => by simp at hk⟩
  | n + 1, j, h, h', l, e => by
    simp only [rowCells] at e
    split at e
    · cases e
    · rename_i c hc
      split at e
      · cases e
      · rename_i v h1 h1e
        split at e
        · cases e
        · rename_i l' h2 h2e
          cases e
          obtain ⟨q1, o1, one1⟩ := ofCell_ok (ρ := ρ) h1e
          obtain ⟨q2, len2, one2, o2⟩ := rowCells_ok (ρ := ρ) n (j + 1) h1 h' l' h2e
          refine ⟨q1.trans q2, by simp [len2], ?_, fun ho hk k v' hv' => ?_⟩
          · intro v' hv'
            rcases List.mem_cons.1 hv' with rfl | hv'
            · exact one1
            · exact one2 v' hv'
          · rw [nth_eq] at hc
            cases k with
            | zero =>
              simp at hv'; subst hv'
              refine ⟨by simpa using (List.getElem?_eq_some_iff.1 hc).1, fun x hx => ?_⟩
              exact o1 (fun p hp => ho p (q2.ob p hp)) (hk j c hc).1 x (by simpa using hx)
            | succ k =>
              simp at hv'
              have := o2 ho hk k v' hv'
              refine ⟨by omega, fun x hx => this.2 x (by rw [← hx]; congr 2; omega)⟩

theorem allOne_mem : ∀ {l : List AV}, allOne l = true → ∀ v ∈ l, v.oneCell = true
  | [], _, v, hv => by simp at hv
  | x :: r, h, v, hv => by
    simp only [allOne] at h
    split at h
    · rename_i hx
      rcases List.mem_cons.1 hv with rfl | hv
      · exact hx
      · exact allOne_mem h v hv
    · cases h

theorem oneCell_known {v : AV} (h : v.oneCell = true) : v ≠ .top := by intro e; subst e; simp [AV.oneCell] at h

theorem relS_den {ρ : Ren} {v : AV} {x : Value} (h : relS ρ v x) (hk : v ≠ .top) : den ρ v = some x := h.resolve_left hk

theorem den_ptr {ρ : Ren} {b i j : Nat} {x : Value} (h : den ρ (.ptr b i j) = some x) : ∃ l, ρ b = some l ∧ l.isnil = false ∧ x = .pointer (some ⟨l.blk, l.base + i * l.wid + j, none⟩) := by
  simp only [den] at h
  cases hb : ρ b with
  | none => simp [hb] at h
  | some l =>
    rw [hb] at h
    cases hn : l.isnil with
    | true => simp [hn] at h
    | false => simp [hn] at h; exact ⟨l, rfl, hn, h.symm⟩

theorem loadN_ok {P : Program} {ρ : Ren} {h h' : Hp} {w : World} {b i j n : Nat} {vs : List AV} (e : loadN h b i j n = some (vs, h')) :
    Qt h h' ∧ vs.length = n ∧ (∀ v ∈ vs, v.oneCell = true) ∧ ((∀ p ∈ h'.ob, p) → HeapRep P ρ h.heap w → ∀ l, ρ b = some l →
      ∃ xs, denL ρ vs = some xs ∧ ∀ (k : Nat) x, xs[k]? = some x → w.cell? ⟨l.blk, l.base + i * l.wid + j + k, none⟩ = some x) := by
  unfold loadN at e
  split at e
  · rename_i wd cs hg
    split at e
    · rename_i t ht
      split at e
      · rename_i ha
        cases e
        obtain ⟨hlen, rfl⟩ := takeN_eq _ _ _ ht
        have hone := allOne_mem ha
        rw [dropN_eq] at hlen hone ha ⊢
        simp only [List.length_drop] at hlen
        refine ⟨.refl _, by simp; omega, hone, fun _ hr l hl => ?_⟩
        have ho := hr.obj hg hl
        obtain ⟨h0, h1, h2, c, ty, fr, hb, hf, hc, hc2, hv⟩ := ho
        let xs : List Value := ((cs.drop (i * wd + j)).take n).zipIdx.map fun p => (c[l.base + (i * wd + j + p.2)]?).getD undef
        have hxs : ∀ (k : Nat), k < n → c[l.base + (i * wd + j + k)]? = xs[k]? := by
          intro k hk
          have : l.base + (i * wd + j + k) < c.size := by omega
          simp only [xs, List.getElem?_map, List.getElem?_zipIdx, List.getElem?_take, hk, if_true, List.getElem?_drop]
          have hk2 : i * wd + j + k < cs.length := by omega
          simp [List.getElem?_eq_getElem hk2, Array.getElem?_eq_getElem this]
        refine ⟨xs, denL_of _ _ (by simp [xs]) (fun k v hk => ?_), fun k x hk => ?_⟩
        · have hkn : k < n := by
            have := (List.getElem?_eq_some_iff.1 hk).1
            simp at this; omega
          rw [List.getElem?_take, if_pos hkn, List.getElem?_drop] at hk
          obtain ⟨x, hx, hrel⟩ := hv _ v hk
          rw [hxs k hkn] at hx
          refine ⟨x, hx, relS_den hrel (oneCell_known (hone v ?_))⟩
          refine List.mem_of_getElem? (i := k) ?_
          rw [List.getElem?_take, if_pos hkn, List.getElem?_drop]; exact hk
        · have hkn : k < n := by
            have := (List.getElem?_eq_some_iff.1 hk).1
            simp [xs] at this; omega
          rw [cell_of_row w l.blk _ c ty fr hb, ← hk, ← hxs k hkn, h2]
          congr 1; omega
      · cases e
    · cases e
  · rename_i wd sh ro len f hg
    split at e
    · rename_i hle
      split at e
      · rename_i h1 hn
        obtain ⟨q1, o1⟩ := need_qt hn
        obtain ⟨q2, len2, one2, o2⟩ := rowCells_ok (ρ := ρ) n j h1 h' vs e
        refine ⟨q1.trans q2, len2, one2, fun ho hr l hl => ?_⟩
        have hi := o1 (fun p hp => ho p (q2.ob p hp))
        simp [Nat.blt_eq] at hi
        obtain ⟨h1, h2, h3, h4, h5⟩ := hr.obj hg hl
        have hcap : l.cap ≠ 0 := by omega
        obtain ⟨c, ty, fr, hb, hf, hc2, hv⟩ := h5 hcap
        have hrow := o2 ho (fun k ck hk => let ⟨a, x, _, hx⟩ := hv i hi k ck hk; ⟨a, x, hx⟩)
        have hle' : j + n ≤ wd := by simpa using hle
        let xs : List Value := (List.range n).map fun k => (c[l.base + i * wd + (j + k)]?).getD undef
        have hx : ∀ (k : Nat), k < n → ∃ x, xs[k]? = some x ∧ c[l.base + i * wd + (j + k)]? = some x ∧ den ρ (f i (j + k)) = some x := by
          intro k hk
          have hs : j + k < sh.length := by omega
          obtain ⟨_, x, hx, hd⟩ := hv i hi (j + k) _ (List.getElem?_eq_getElem hs)
          exact ⟨x, by simp [xs, hk, hx], hx, hd⟩
        refine ⟨xs, denL_of _ _ (by simp [xs, len2]) (fun k v hk => ?_), fun k x hk => ?_⟩
        · have hkn : k < n := by have := (List.getElem?_eq_some_iff.1 hk).1; omega
          obtain ⟨x, a1, a2, a3⟩ := hx k hkn
          exact ⟨x, a1, (hrow k v hk).2 x a3⟩
        · have hkn : k < n := by have := (List.getElem?_eq_some_iff.1 hk).1; simp [xs] at this; omega
          obtain ⟨x', a1, a2, a3⟩ := hx k hkn
          rw [a1] at hk; cases hk
          rw [cell_of_row w l.blk _ c ty fr hb, h1, ← a2]
          congr 1; omega
      · cases e
    · cases e
  · cases e

theorem loadA_ok {P : Program} {ρ : Ren} {h h' : Hp} {w : World} {t : TypeId} {v r : AV} (e : loadA P t v h = some (r, h')) :
    Qt h h' ∧ r ≠ .top ∧ ((∀ p ∈ h'.ob, p) → HeapRep P ρ h.heap w → ∀ x, den ρ v = some x → ∃ y, (Instr.loadAt t x).run P w = .ok y w ∧ den ρ r = some y) := by
  unfold loadA at e
  split at e
  · rename_i b i j n ha hn
    split at e
    · rename_i l h1 he
      cases e
      obtain ⟨q, len, one, o⟩ := loadN_ok (P := P) (ρ := ρ) (w := w) he
      refine ⟨q, by simp, fun ho hr x hx => ?_⟩
      obtain ⟨L, hL, hnil, rfl⟩ := den_ptr hx
      obtain ⟨xs, hxs, hc⟩ := o ho hr L hL
      refine ⟨.agg xs.toArray, ?_, by simp [den, hxs]⟩
      have hlen : xs.length = n := by rw [← denL_length _ _ hxs, len]
      have hrun := run_loadCells_list (P := P) w ⟨L.blk, L.base + i * L.wid + j, none⟩ xs (fun k y hk => by
        have := hc k y hk
        unfold Addr.add
        split
        · rename_i hk0; subst hk0; simpa using this
        · exact this)
      rw [hlen] at hrun
      simp only [Instr.loadAt, Instr.sureAddr, loadVar, pure_bind, Sem.run_bind, run_isAgg ha, Result.andThen_ok, if_true, run_sizeOf hn, hrun, Sem.run_pure]
    · cases e
  · rename_i b i j n ha hn
    split at e
    · rename_i x1 h1 he
      cases e
      obtain ⟨q, len, one, o⟩ := loadN_ok (P := P) (ρ := ρ) (w := w) he
      refine ⟨q, oneCell_known (one _ (List.mem_singleton.2 rfl)), fun ho hr x hx => ?_⟩
      obtain ⟨L, hL, hnil, rfl⟩ := den_ptr hx
      obtain ⟨xs, hxs, hc⟩ := o ho hr L hL
      have hlen : xs.length = 1 := by rw [← denL_length _ _ hxs, len]
      obtain ⟨y, rfl⟩ : ∃ y, xs = [y] := by
        match xs, hlen with
        | [y], _ => exact ⟨y, rfl⟩
      have hc0 := hc 0 y rfl
      obtain ⟨y', hy', hd⟩ := denL_get _ _ hxs 0 r rfl
      simp at hy'; subst hy'
      refine ⟨y, ?_, hd⟩
      simp only [Nat.add_zero] at hc0
      simp [Instr.loadAt, Instr.sureAddr, loadVar, run_isAgg ha, hc0]
    · cases e
  · cases e

end Go.Ev

/-
  Stores, new variables, aggregates, addresses: the soundness of the evaluator, third part.
-/
set_option linter.unusedSimpArgs false
set_option linter.unusedVariables false
namespace Go.Ev

/-! ### one-cell values -/
theorem oneV_cells {x : Value} (h : oneV x = true) : x.cells = #[x] := by
  cases x <;> simp [oneV] at h <;> rfl

theorem oneCell_den {ρ : Ren} {v : AV} {x : Value} (h : v.oneCell = true) (e : den ρ v = some x) : oneV x = true := by
  cases v <;> simp only [den, AV.oneCell] at h e <;> first
    | (cases e; rfl)
    | (cases h; done)
    | skip
  case ptr b i j => obtain ⟨l, _, _, rfl⟩ := den_ptr (ρ := ρ) (b := b) (i := i) (j := j) (by simpa only [den] using e); rfl
  case stamp n =>
    cases hb : ρ n with
    | none => simp [hb] at e
    | some l => simp only [hb] at e; cases e; rfl
  case xs wd b off len c =>
    cases hb : ρ b with
    | none => simp [hb] at e
    | some l =>
      simp only [hb] at e
      cases hn : l.isnil with
      | true => simp [hn] at e
      | false =>
        simp only [hn, Loc.slice] at e
        repeat' split at e
        all_goals first | (cases e; rfl) | cases e
  case ss wd b off len c =>
    cases hb : ρ b with
    | none => simp [hb] at e
    | some l =>
      simp only [hb, Loc.slice] at e
      repeat' split at e
      all_goals first | (cases e; rfl) | cases e
  case map b =>
    cases hb : ρ b with
    | none => simp [hb] at e
    | some l => simp only [hb] at e; cases e; rfl
  case func f l m =>
    cases hl : denL ρ l with
    | none => simp [hl] at e
    | some l' => cases hm : denL ρ m with
      | none => simp [hl, hm] at e
      | some m' => simp only [hl, hm] at e; cases e; rfl
  case iface t v =>
    cases hl : den ρ v with
    | none => simp [hl] at e
    | some l' => simp only [hl] at e; cases e; rfl
  case raw v => cases e; exact h

theorem cells_den {ρ : Ren} {v : AV} {x : Value} (h : v.partOk = true) (e : den ρ v = some x) : denL ρ v.cells = some x.cells.toList ∧ ∀ y ∈ x.cells.toList, oneV y = true := by
  by_cases ha : ∃ l, v = .agg l
  · obtain ⟨l, rfl⟩ := ha
    simp only [den] at e
    cases hl : denL ρ l with
    | none => simp [hl] at e
    | some l' =>
      simp only [hl] at e; cases e
      refine ⟨by simpa [AV.cells, Value.cells] using hl, fun y hy => ?_⟩
      have hy : y ∈ l' := by simpa [Value.cells] using hy
      obtain ⟨k, hk⟩ := List.mem_iff_getElem?.1 hy
      have hlen := denL_length _ _ hl
      have hlt := (List.getElem?_eq_some_iff.1 hk).1
      obtain ⟨y', hy', hd⟩ := denL_get _ _ hl k l[k] (List.getElem?_eq_getElem (by omega))
      rw [hk] at hy'; cases hy'
      exact oneCell_den (allOne_mem h _ (List.getElem_mem _)) hd
  · have hv : v.oneCell = true := by
      cases v <;> first | exact h | exact absurd ⟨_, rfl⟩ ha
    have hc : v.cells = [v] := by
      cases v <;> first | rfl | exact absurd ⟨_, rfl⟩ ha
    have h1 := oneCell_den hv e
    rw [hc, oneV_cells h1]
    exact ⟨by simp [denL, e], by simpa using h1⟩

theorem allOne_part {v : AV} (h : allOne v.cells = true) : v.partOk = true := by
  cases v <;> first
    | exact h
    | (simp only [AV.cells, allOne] at h; split at h <;> first | assumption | cases h)

theorem cellOf_den (ρ : Ren) (v : Value) : den ρ (cellOf v) = some v := by
  unfold cellOf
  split <;> simp [den]

theorem ofVal_den (ρ : Ren) (v : Value) : den ρ (ofVal v) = some v := by
  unfold ofVal
  split
  · rename_i cs
    have : denL ρ (cs.toList.map cellOf) = some cs.toList := denL_of _ _ (by simp) (fun k v hk => by
      rw [List.getElem?_map] at hk
      cases hc : cs.toList[k]? with
      | none => simp [hc] at hk
      | some y => simp [hc] at hk; subst hk; exact ⟨y, rfl, cellOf_den ρ y⟩)
    simp [den, this]
  · exact cellOf_den ρ _

theorem ofVal_known (v : Value) : ofVal v ≠ .top := by
  intro e
  have := ofVal_den (fun _ => none) v
  rw [e] at this; simp [den] at this

/-! ### writing -/
theorem oneV_eq (v : Value) : oneV v = v.oneCell' := by cases v <;> rfl

theorem run_storeCells {P : Program} (blk off : Nat) (t : TypeId) (fr : Nat × Nat) (hf : fr.2 ≤ fr.1) : ∀ (vs : List Value) (i : Nat) (w : World) (c : Array Value), w.heap[blk]? = some (.cells c t fr) →
    (∀ v ∈ vs, oneV v = true) → off + i + vs.length ≤ c.size →
    ∃ w' c', (storeCells ⟨blk, off, none⟩ vs i).run P w = .ok () w' ∧ w'.heap[blk]? = some (.cells c' t fr) ∧ c'.size = c.size ∧
      (∀ k, c'[k]? = if off + i ≤ k ∧ k < off + i + vs.length then vs[k - (off + i)]? else c[k]?) ∧ (∀ b, b ≠ blk → w'.heap[b]? = w.heap[b]?) ∧ w'.heap.size = w.heap.size ∧ w'.tape = w.tape ∧ w'.os = w.os ∧ w'.output = w.output
  | [], i, w, c, hc, _, _ => ⟨w, c, by simp [storeCells], hc, rfl, fun k => by simp; omega, fun _ _ => rfl, rfl, rfl, rfl, rfl⟩
  | v :: r, i, w, c, hc, hv, hlen => by
    simp only [List.length_cons] at hlen
    have hadd : (⟨blk, off, none⟩ : Addr).add i = ⟨blk, off + i, none⟩ := by unfold Addr.add; split <;> simp_all
    have hcell : w.cell? ⟨blk, off + i, none⟩ = some c[off + i] := by
      rw [cell_of_row w blk _ c t fr hc]; exact Array.getElem?_eq_getElem (by omega)
    have hfz : w.frozen? ⟨blk, off + i, none⟩ = false := by
      obtain ⟨lo, hi⟩ := fr
      simp only [World.frozen?, hc]
      simp only at hf
      by_cases h : lo ≤ off + i <;> simp [h] <;> omega
    have hrun : (store ((⟨blk, off, none⟩ : Addr).add i) v).run P w = .ok () (w.setCell ⟨blk, off + i, none⟩ v) := by
      rw [hadd, run_store P w _ v .plain (by rw [← oneV_eq]; exact hv v (List.mem_cons_self ..))]
      simp [hcell, hfz]
    have hw1 : (w.setCell ⟨blk, off + i, none⟩ v).heap[blk]? = some (.cells (c.setIfInBounds (off + i) v) t fr) := by
      simp [World.setCell, Array.getElem?_modify, hc]
    obtain ⟨w', c', h1, h2, h3, h4, h5, h6, h7, h8, h9⟩ := run_storeCells (P := P) blk off t fr hf r (i + 1) (w.setCell ⟨blk, off + i, none⟩ v) _ hw1 (fun x hx => hv x (List.mem_cons_of_mem _ hx)) (by simp; omega)
    refine ⟨w', c', ?_, h2, by rw [h3]; simp, fun k => ?_, fun b hb => ?_, ?_, h7.trans rfl, h8.trans rfl, h9.trans rfl⟩
    · simp only [storeCells, Sem.run_bind, hrun, Result.andThen_ok, h1]
    · rw [h4 k]
      by_cases hk : off + (i + 1) ≤ k ∧ k < off + (i + 1) + r.length
      · rw [if_pos hk, if_pos (by simp only [List.length_cons]; omega)]
        rw [show k - (off + i) = (k - (off + (i + 1))) + 1 by omega, List.getElem?_cons_succ]
      · rw [if_neg hk]
        by_cases hk2 : k = off + i
        · subst hk2
          rw [if_pos (by simp only [List.length_cons]; omega)]
          simp [Array.getElem?_setIfInBounds]; omega
        · rw [if_neg (by simp only [List.length_cons]; omega), Array.getElem?_setIfInBounds_ne (Ne.symm hk2)]
    · rw [h5 b hb]
      exact heap_setCell_other w _ b v hb
    · rw [h6]; simp

theorem splice_length {α : Type} : ∀ (r l : List α) (k : Nat), (splice l k r).length = l.length
  | [], l, k => by simp [splice]
  | x :: r, l, k => by simp [splice, splice_length r, setNth_eq]

theorem splice_get {α : Type} : ∀ (r l : List α) (k j : Nat), (splice l k r)[j]? = if k ≤ j ∧ j < k + r.length ∧ j < l.length then r[j - k]? else l[j]?
  | [], l, k, j => by simp [splice]; omega
  | x :: r, l, k, j => by
    simp only [splice]
    rw [splice_get r, setNth_eq, List.length_set]
    by_cases h : k + 1 ≤ j ∧ j < k + 1 + r.length ∧ j < l.length
    · rw [if_pos h, if_pos (by simp only [List.length_cons]; omega), show j - k = (j - (k + 1)) + 1 by omega, List.getElem?_cons_succ]
    · rw [if_neg h]
      by_cases h2 : k = j
      · subst h2
        by_cases h3 : k < l.length
        · rw [if_pos (by simp only [List.length_cons]; omega)]; simp [h3]
        · rw [if_neg (by omega)]; rw [List.getElem?_eq_none (by simp; omega), List.getElem?_eq_none (by omega)]
      · rw [if_neg (by simp only [List.length_cons]; omega), List.getElem?_set_ne h2]

theorem fits_kind {k : CK} {v : AV} (h : fits k v = true) : kindOk k v := by
  unfold fits at h
  split at h
  · have := of_decide_eq_true h; subst this; exact ⟨_, .inl rfl⟩
  · have := of_decide_eq_true h; subst this; exact ⟨_, .inr rfl⟩
  · exact ⟨_, .inl rfl⟩
  · exact ⟨_, .inr rfl⟩
  · exact h
  · cases h

theorem fitsAll_kind {sh : List CK} : ∀ {l : List AV} {j : Nat}, fitsAll sh j l = true → ∀ (k : Nat) c v, sh[j + k]? = some c → l[k]? = some v → kindOk c v
  | [], j, _, k, c, v, _, hv => by simp at hv
  | x :: r, j, h, k, c, v, hc, hv => by
    simp only [fitsAll] at h
    split at h
    · rename_i k0 hk0
      rw [nth_eq] at hk0
      split at h
      · rename_i hf
        cases k with
        | zero => simp at hv hc; subst hv; rw [hk0] at hc; cases hc; exact fits_kind hf
        | succ k => exact fitsAll_kind h k c v (by rw [← hc]; congr 1; omega) (by simpa using hv)
      · cases h
    · cases h

theorem fitsAll_len {sh : List CK} : ∀ {l : List AV} {j : Nat}, fitsAll sh j l = true → l = [] ∨ j + l.length ≤ sh.length
  | [], j, _ => .inl rfl
  | x :: r, j, h => by
    right
    simp only [fitsAll] at h
    split at h
    · rename_i k0 hk0
      rw [nth_eq] at hk0
      have := (List.getElem?_eq_some_iff.1 hk0).1
      split at h
      · rcases fitsAll_len h with rfl | h'
        · simp; omega
        · simp; omega
      · cases h
    · cases h

theorem put_mono (h : Hp) (b : Nat) (o : AO) : Mono h (h.put b o) := ⟨fun _ x => x, Nat.le_refl _, rfl, fun n hn => mem_add.2 (.inr hn)⟩

/-- The cells of a part of an object are written. -/
theorem storeN_ok {P : Program} {ρ : Ren} {h h' : Hp} {w : World} {b i j : Nat} {vs : List AV} (e : storeN h b i j vs = some h') :
    Mono h h' ∧ (∀ v ∈ vs, v.oneCell = true) ∧ ((∀ p ∈ h'.ob, p) → HeapRep P ρ h.heap w → ∀ l, ρ b = some l → ∀ xs, denL ρ vs = some xs →
      ∃ w', (storeCells ⟨l.blk, l.base + i * l.wid + j, none⟩ xs).run P w = .ok () w' ∧ Step P ρ h w ρ h' w') := by
  unfold storeN at e
  split at e
  · cases e
  rename_i ha
  have hone := allOne_mem ha
  have honeV : ∀ {xs : List Value}, denL ρ vs = some xs → ∀ x ∈ xs, oneV x = true := by
    intro xs hxs x hx
    obtain ⟨k, hk⟩ := List.mem_iff_getElem?.1 hx
    have hlen := denL_length _ _ hxs
    have hlt := (List.getElem?_eq_some_iff.1 hk).1
    obtain ⟨y, hy, hd⟩ := denL_get _ _ hxs k vs[k] (List.getElem?_eq_getElem (by omega))
    rw [hk] at hy; cases hy
    exact oneCell_den (hone _ (List.getElem_mem _)) hd
  split at e
  · rename_i wd cs hg
    split at e
    · rename_i hle
      cases e
      refine ⟨put_mono _ _ _, hone, fun _ hr l hl xs hxs => ?_⟩
      obtain ⟨h0, h1, h2, c, t, fr, hb, hf, hc, hc2, hv⟩ := hr.obj hg hl
      have hle' : i * wd + j + vs.length ≤ cs.length := by simpa using hle
      have hlen := denL_length _ _ hxs
      obtain ⟨w', c', r1, r2, r3, r4, r5, r6, r7, r8, r9⟩ := run_storeCells (P := P) l.blk (l.base + i * l.wid + j) t fr hf xs 0 w c hb (honeV hxs) (by rw [h2]; omega)
      refine ⟨w', r1, put_step hr hg rfl rfl hl h1 r5 (by omega) r7 r8 r9 ?_⟩
      · refine ⟨h0, h1, h2, c', t, fr, r2, hf, by rw [splice_length]; exact hc, by rw [r3]; exact hc2, fun k v hk => ?_⟩
        rw [splice_get] at hk
        rw [r4, h2]
        by_cases hin : i * wd + j ≤ k ∧ k < i * wd + j + vs.length ∧ k < cs.length
        · rw [if_pos hin] at hk
          obtain ⟨x, hx, hd⟩ := denL_get _ _ hxs _ v hk
          refine ⟨x, ?_, .inr hd⟩
          rw [if_pos (by omega)]
          rw [← hx]; congr 1; omega
        · rw [if_neg hin] at hk
          have : k < cs.length := (List.getElem?_eq_some_iff.1 hk).1
          rw [if_neg (by omega)]
          exact hv k v hk
    · cases e
  · rename_i wd sh ro len f hg
    split at e
    · rename_i hro hfit hle
      split at e
      · rename_i h1 hn
        cases e
        obtain ⟨q1, o1⟩ := need_qt hn
        refine ⟨q1.mono.trans (put_mono _ _ _), hone, fun ho hr l hl xs hxs => ?_⟩
        have hi : i < len := by have := o1 ho; simpa [Nat.blt_eq] using this
        obtain ⟨g1, g2, g3, g4, g5⟩ := hr.obj hg hl
        have hcap : l.cap ≠ 0 := by omega
        obtain ⟨c, t, fr, hb, hf, hc2, hv⟩ := g5 hcap
        have hlen := denL_length _ _ hxs
        have hle' : j + vs.length ≤ wd := by simpa using hle
        have hmul : i * wd + wd ≤ l.cap * wd := by
          have : (i + 1) * wd ≤ l.cap * wd := Nat.mul_le_mul_right wd (by omega)
          rwa [Nat.succ_mul] at this
        obtain ⟨w', c', r1, r2, r3, r4, r5, r6, r7, r8, r9⟩ := run_storeCells (P := P) l.blk (l.base + i * l.wid + j) t fr (hf rfl) xs 0 w c hb (honeV hxs) (by rw [g1]; omega)
        have hput : ObjRep P ρ w' l (.arr wd sh false len (upd f i j vs)) := by
          refine ⟨g1, g2, g3, g4, fun _ => ⟨c', t, fr, r2, hf, by rw [r3]; exact hc2, fun i' hi' k ck hk => ?_⟩⟩
          have hkw : k < wd := by have := (List.getElem?_eq_some_iff.1 hk).1; omega
          obtain ⟨a1, x, a2, a3⟩ := hv i' hi' k ck hk
          rw [r4, g1]
          simp only [upd]
          by_cases hii : i' = i
          · subst hii
            rw [if_pos rfl]
            by_cases hjk : j ≤ k
            · rw [if_pos hjk, nth_eq]
              by_cases hin : k - j < vs.length
              · rw [List.getElem?_eq_getElem hin]
                obtain ⟨y, hy, hd⟩ := denL_get _ _ hxs (k - j) _ (List.getElem?_eq_getElem hin)
                refine ⟨fitsAll_kind hfit (k - j) ck _ (by rw [← hk]; congr 1; omega) (List.getElem?_eq_getElem hin), y, ?_, hd⟩
                rw [if_pos (by omega), ← hy]; congr 1; omega
              · rw [List.getElem?_eq_none (by omega)]
                exact ⟨a1, x, by rw [if_neg (by omega)]; exact a2, a3⟩
            · rw [if_neg hjk]
              exact ⟨a1, x, by rw [if_neg (by omega)]; exact a2, a3⟩
          · rw [if_neg hii]
            refine ⟨a1, x, ?_, a3⟩
            rw [if_neg ?_]
            · exact a2
            · intro hcon
              rcases Nat.lt_or_gt_of_ne hii with hlt | hgt
              · have : (i' + 1) * wd ≤ i * wd := Nat.mul_le_mul_right wd (by omega)
                rw [Nat.succ_mul] at this
                omega
              · have : (i + 1) * wd ≤ i' * wd := Nat.mul_le_mul_right wd (by omega)
                rw [Nat.succ_mul] at this
                omega
        have hr1 : HeapRep P ρ h1.heap w := by rw [q1.heap]; exact hr
        exact ⟨w', r1, (Step.refl hr q1.heap).trans (put_step hr1 (by rw [q1.heap]; exact hg) rfl rfl hl hcap r5 (by omega) r7 r8 r9 hput) q1.mono (put_mono _ _ _)⟩
      · cases e
    · cases e
  · cases e

theorem storeA_ok {P : Program} {ρ : Ren} {h h' : Hp} {w : World} {t : TypeId} {a v : AV} (e : storeA P t a v h = some h') :
    Mono h h' ∧ ((∀ p ∈ h'.ob, p) → HeapRep P ρ h.heap w → ∀ x y, relS ρ a x → relS ρ v y → ∃ w', (Instr.storeAt t x y).run P w = .ok () w' ∧ Step P ρ h w ρ h' w') := by
  unfold storeA at e
  split at e
  · rename_i b i j n hn
    split at e
    · rename_i hbeq
      obtain ⟨m, one, o⟩ := storeN_ok (P := P) (ρ := ρ) (w := w) e
      refine ⟨m, fun ho hr x y hx hy => ?_⟩
      obtain ⟨L, hL, hnil, rfl⟩ := den_ptr (relS_den hx (by simp))
      have hp : v.partOk = true := by
        have : allOne v.cells = true := by
          unfold storeN at e
          split at e
          · cases e
          · assumption
        exact allOne_part this
      have hvt : v ≠ .top := by intro e; subst e; simp [AV.partOk, AV.oneCell] at hp
      obtain ⟨hc, _⟩ := cells_den hp (relS_den hy hvt)
      obtain ⟨w', r1, r2⟩ := o ho hr L hL _ hc
      refine ⟨w', ?_, r2⟩
      have hsz : y.cells.size = n := by
        have := denL_length _ _ hc
        have h2 := Nat.eq_of_beq_eq_true hbeq
        simp at this; omega
      simp only [Instr.storeAt, Instr.sureAddr, pure_bind, storeVar, Sem.run_bind, run_sizeOf hn, Result.andThen_ok, hsz]
      simp [r1]
    · cases e
  · cases e

/-! ### new variables -/
theorem newA_ok {P : Program} {ρ : Ren} {h h' : Hp} {w : World} {v r : AV} (e : newA v h = some (r, h')) :
    Mono h h' ∧ r ≠ .top ∧ (Fresh ρ h.nxt h.hi → HeapRep P ρ h.heap w → ∀ t x, relS ρ v x → ∃ ρ', (newVar t x).run P w = .ok ⟨w.heap.size, 0, none⟩ (w.alloc (.cells x.cells t)) ∧ den ρ' r = some (.pointer (some ⟨w.heap.size, 0, none⟩)) ∧
      Step P ρ h w ρ' h' (w.alloc (.cells x.cells t))) := by
  unfold newA at e
  split at e
  · rename_i ha
    split at e
    · rename_i n h1 hn
      cases e
      refine ⟨new_mono hn, by simp, fun hf hr t x hx => ?_⟩
      have hp := allOne_part ha
      have hvt : v ≠ .top := by intro e; subst e; simp [AV.partOk, AV.oneCell] at hp
      obtain ⟨hc, _⟩ := cells_den hp (relS_den hx hvt)
      have hlen := denL_length _ _ hc
      let l : Loc := ⟨w.heap.size, 0, v.cells.length, 1, false⟩
      have hρn : ρ n = none := by
        obtain ⟨rfl, hlt, _⟩ := new_spec hn
        exact hf _ (Nat.le_refl _) hlt
      have ho : ObjRep P (ρ.set n l) (w.alloc (.cells x.cells t)) l (.cells v.cells.length v.cells) := by
        refine ⟨rfl, by simp [l], rfl, x.cells, t, (0, 0), heap_alloc_new w _, Nat.le_refl _, by simp [l], by simp [l]; simp at hlen; omega, fun j v' hj => ?_⟩
        obtain ⟨y, hy, hd⟩ := denL_get _ _ hc j v' hj
        exact ⟨y, by simpa [l] using hy, .inr (den_mono (Ren.le_set hρn) _ _ hd)⟩
      obtain ⟨hs, _⟩ := new_step hn hr hf (.cells x.cells t) l rfl ho
      refine ⟨ρ.set n l, ?_, ?_, hs⟩
      · simp [newVar, newRow]
      · simp [den, Ren.set_same, l]
    · cases e
  · cases e

end Go.Ev
