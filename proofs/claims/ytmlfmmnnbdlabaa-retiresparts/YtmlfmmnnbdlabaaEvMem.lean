/-
  How memory is read, written and made: the soundness of the evaluator, second part.
-/
import Derived.Test.YtmlfmmnnbdlabaaEvRep
set_option linter.unusedSimpArgs false
set_option linter.unusedVariables false
namespace Go.Ev

/-! ### small runs -/
section
variable {P : Program} {w : World}

theorem run_underlying' {t : TypeId} {d : TypeDesc} (h : P.underlying t = some d) : (underlying t).run P w = .ok d w := by
  simp [underlying, h]

theorem run_sizeOf {t : TypeId} {n : Nat} (h : sizeT P t = some n) : (sizeOf t).run P w = .ok n w := by
  unfold sizeT at h
  cases hi : P.info? t with
  | none => simp [hi] at h
  | some i => simp [hi] at h; simp [sizeOf, typeInfo, hi, h]

theorem run_isAgg {t : TypeId} {b : Bool} (h : isAggT P t = some b) : (isAgg t).run P w = .ok b w := by
  unfold isAggT at h
  split at h
  · rename_i hu; cases h; simp [isAgg, run_underlying' hu]
  · rename_i hu; cases h; simp [isAgg, run_underlying' hu]
  · rename_i d h1 h2 hu; cases h
    simp only [isAgg, Sem.run_bind, run_underlying' hu, Result.andThen_ok]
    cases d <;> simp_all
  · cases h

theorem run_zero {t : TypeId} {z : AV} (h : zeroT P t = some z) : ∃ v, (zeroValue t).run P w = .ok v w ∧ z = ofVal v := by
  unfold zeroT at h
  split at h
  · rename_i i hi
    split at h
    · rename_i v hv; cases h; exact ⟨v, by simp [zeroValue, typeInfo, hi, hv], rfl⟩
    · cases h
  · cases h
end

/-! ### abstract steps that leave memory alone -/
structure Qt (h h' : Hp) : Prop where
  heap : h'.heap = h.heap
  nxt : h'.nxt = h.nxt
  hi : h'.hi = h.hi
  wr : h'.wr = h.wr
  ob : ∀ p ∈ h.ob, p ∈ h'.ob

theorem Qt.refl (h : Hp) : Qt h h := ⟨rfl, rfl, rfl, rfl, fun _ x => x⟩
theorem Qt.trans {h h' h'' : Hp} (a : Qt h h') (b : Qt h' h'') : Qt h h'' :=
  ⟨b.heap.trans a.heap, b.nxt.trans a.nxt, b.hi.trans a.hi, b.wr.trans a.wr, fun p x => b.ob p (a.ob p x)⟩
theorem Qt.mono {h h' : Hp} (a : Qt h h') : Mono h h' := ⟨a.ob, Nat.le_of_eq a.nxt.symm, a.hi, fun n x => by rw [a.wr]; exact x⟩

theorem need_qt {h h' : Hp} {b : Bool} (e : h.need b = some h') : Qt h h' ∧ ((∀ p ∈ h'.ob, p) → b = true) := by
  unfold Hp.need at e
  split at e
  · split at e
    · cases e; exact ⟨.refl _, fun _ => rfl⟩
    · cases e
  · cases e; exact ⟨⟨rfl, rfl, rfl, rfl, fun p hp => List.mem_cons_of_mem _ hp⟩, fun ho => ho _ (List.mem_cons_self ..)⟩

theorem check_qt {h h' : Hp} {c b : Bool} (e : h.check c b = some h') : Qt h h' ∧ ((∀ p ∈ h'.ob, p) → b = true) := by
  unfold Hp.check at e
  split at e
  · split at e
    · cases e; exact ⟨.refl _, fun _ => rfl⟩
    · cases e
  · exact need_qt e

theorem dec_qt {h h' : Hp} {v : AV} {b : Bool} (e : h.dec v = some (b, h')) : Qt h h' ∧ ((∀ p ∈ h'.ob, p) → v = .bool b ∨ v = .symb b) := by
  unfold Hp.dec at e
  split at e
  · cases e; exact ⟨.refl _, fun _ => .inl rfl⟩
  · split at e
    · split at e
      · cases e; exact ⟨⟨rfl, rfl, rfl, rfl, fun p hp => hp⟩, fun _ => .inr rfl⟩
      · split at e
        · cases e
          refine ⟨⟨rfl, rfl, rfl, rfl, fun p hp => List.mem_cons_of_mem _ hp⟩, fun ho => .inr ?_⟩
          have := ho _ (List.mem_cons_self ..)
          rw [this]
        · cases e
        · split at e
          · cases e; exact ⟨.refl _, fun _ => .inr rfl⟩
          · cases e
    · split at e
      · cases e; exact ⟨.refl _, fun _ => .inr rfl⟩
      · split at e
        · cases e
          refine ⟨⟨rfl, rfl, rfl, rfl, fun p hp => List.mem_cons_of_mem _ hp⟩, fun ho => .inr ?_⟩
          have := ho _ (List.mem_cons_self ..)
          rw [this]
        · cases e
  · cases e

theorem literal_qt {h h' : Hp} {v : AV} {m : Nat} (e : h.literal v = some (m, h')) : Qt h h' ∧ ((∀ p ∈ h'.ob, p) → ∃ k, v = .int k (m : Int) ∨ v = .sym k (m : Int)) := by
  unfold Hp.literal at e
  split at e
  · split at e
    · cases e; exact ⟨.refl _, fun _ => ⟨_, .inl rfl⟩⟩
    · cases e
  · split at e
    · split at e
      · split at e
        · cases e; exact ⟨⟨rfl, rfl, rfl, rfl, fun p hp => hp⟩, fun _ => ⟨_, .inr rfl⟩⟩
        · cases e
      · split at e
        · cases e
          refine ⟨⟨rfl, rfl, rfl, rfl, fun p hp => List.mem_cons_of_mem _ hp⟩, fun ho => ?_⟩
          have := ho _ (List.mem_cons_self ..)
          exact ⟨_, .inr (by rw [this]; rfl)⟩
        · split at e
          · split at e
            · cases e; exact ⟨.refl _, fun _ => ⟨_, .inr rfl⟩⟩
            · cases e
          · cases e
    · split at e
      · split at e
        · cases e; exact ⟨.refl _, fun _ => ⟨_, .inr rfl⟩⟩
        · cases e
      · split at e
        · cases e
          refine ⟨⟨rfl, rfl, rfl, rfl, fun p hp => List.mem_cons_of_mem _ hp⟩, fun ho => ?_⟩
          have := ho _ (List.mem_cons_self ..)
          exact ⟨_, .inr (by rw [this]; rfl)⟩
        · cases e
  · cases e

theorem asI_den {ρ : Ren} {v : AV} {k : IntKind} {c : Bool} {n : Int} (h : asI v = some (k, c, n)) : den ρ v = some (.int k n) ∧ v ≠ .top := by
  unfold asI at h
  split at h <;> cases h <;> simp [den]

theorem asB_den {ρ : Ren} {v : AV} {c b : Bool} (h : asB v = some (c, b)) : den ρ v = some (.bool b) ∧ v ≠ .top := by
  unfold asB at h
  split at h <;> cases h <;> simp [den]

theorem mkI_den {ρ : Ren} {k : IntKind} {c : Bool} {n : Int} : den ρ (mkI k c n) = some (.int k n) := by cases c <;> simp [mkI, den]
theorem mkB_den {ρ : Ren} {c b : Bool} : den ρ (mkB c b) = some (.bool b) := by cases c <;> simp [mkB, den]

theorem index_qt {h h' : Hp} {v : AV} {b m : Nat} (e : h.index v b = some (m, h')) : Qt h h' ∧ ((∀ p ∈ h'.ob, p) → m < b ∧ ∃ k, v = .int k (m : Int) ∨ v = .sym k (m : Int)) := by
  unfold Hp.index at e
  split at e
  · rename_i k c n hn
    split at e
    · rename_i h1 he
      cases e
      have := need_qt he
      refine ⟨this.1, fun ho => ?_⟩
      have h2 := this.2 ho
      simp [Nat.blt_eq] at h2
      refine ⟨h2.1, k, ?_⟩
      unfold asI at hn
      split at hn <;> cases hn
      · left; congr 1; omega
      · right; congr 1; omega
    · cases e
  · cases e

theorem bound_qt {h h' : Hp} {ex : Bool} {v : AV} {b m : Nat} (e : bound ex v b h = some (m, h')) : Qt h h' ∧ ((∀ p ∈ h'.ob, p) → m ≤ b ∧ ∃ k, v = .int k (m : Int) ∨ v = .sym k (m : Int)) := by
  unfold bound at e
  split at e
  · split at e
    · rename_i m' h1 he
      split at e
      · rename_i hle
        cases e
        have := literal_qt he
        exact ⟨this.1, fun ho => ⟨by simpa using hle, this.2 ho⟩⟩
      · cases e
    · cases e
  · split at e
    · rename_i k c n hn
      split at e
      · rename_i h1 he
        cases e
        have := need_qt he
        refine ⟨this.1, fun ho => ?_⟩
        have h2 := this.2 ho
        simp at h2
        refine ⟨by omega, k, ?_⟩
        unfold asI at hn
        split at hn <;> cases hn
        · left; congr 1; omega
        · right; congr 1; omega
      · cases e
    · cases e

/-! ### renamings -/
def Ren.set (ρ : Ren) (n : Nat) (l : Loc) : Ren := fun m => if m = n then some l else ρ m

theorem Ren.set_same (ρ : Ren) (n : Nat) (l : Loc) : ρ.set n l n = some l := by simp [Ren.set]
theorem Ren.le_set {ρ : Ren} {n : Nat} {l : Loc} (h : ρ n = none) : Le ρ (ρ.set n l) := by
  intro m l' e
  have : m ≠ n := fun x => by subst x; rw [h] at e; cases e
  simp [Ren.set, this, e]

theorem HeapRep.obj {P : Program} {ρ : Ren} {heap : List (Nat × AO)} {w : World} (h : HeapRep P ρ heap w) {b : Nat} {o : AO} (e : get heap b = some o) {l : Loc} (hl : ρ b = some l) : ObjRep P ρ w l o := by
  obtain ⟨l', h1, h2⟩ := h.1 b o e
  rw [hl] at h1; cases h1; exact h2

/-- Another object in the place of one. -/
theorem HeapRep.put {P : Program} {ρ : Ren} {heap : List (Nat × AO)} {w w' : World} (h : HeapRep P ρ heap w) {b : Nat} {o o' : AO} (e : get heap b = some o) (ro : o.ro = false) (ro' : o'.ro = false) {l : Loc} (hl : ρ b = some l) (hc : l.cap ≠ 0)
    (hs : ∀ k, k ≠ l.blk → w'.heap[k]? = w.heap[k]?) (ho : ObjRep P ρ w' l o') : HeapRep P ρ (set heap b o') w' := by
  refine ⟨fun n x hn => ?_, fun n m x y l1 l2 hn hm hne hro h1 h2 c1 c2 => ?_⟩
  · rw [get_set] at hn
    by_cases hnb : n = b
    · subst hnb; simp at hn; subst hn; exact ⟨l, hl, ho⟩
    · simp [hnb] at hn
      obtain ⟨l', hl', hx⟩ := h.1 n x hn
      exact ⟨l', hl', hx.keep (Le.refl ρ) (fun c => hs _ (h.2 n b x o l' l hn e hnb (by rw [ro, Bool.and_false]) hl' hl c hc))⟩
  · have key : ∀ n x, get (Ev.set heap b o') n = some x → ∃ x', get heap n = some x' ∧ x'.ro = x.ro := by
      intro n x hn
      rw [get_set] at hn
      by_cases hnb : n = b
      · subst hnb; simp at hn; subst hn; exact ⟨o, e, ro.trans ro'.symm⟩
      · simp [hnb] at hn; exact ⟨x, hn, rfl⟩
    obtain ⟨x', hx', rx⟩ := key n x hn
    obtain ⟨y', hy', ry⟩ := key m y hm
    exact h.2 n m x' y' l1 l2 hx' hy' hne (by rw [rx, ry]; exact hro) h1 h2 c1 c2

/-- A new object. -/
theorem HeapRep.new {P : Program} {ρ : Ren} {heap : List (Nat × AO)} {w w' : World} (h : HeapRep P ρ heap w) {n : Nat} {o : AO} {l : Loc} (hf : ρ n = none) (hb : l.blk = w.heap.size)
    (hs : ∀ k, k < w.heap.size → w'.heap[k]? = w.heap[k]?) (ho : ObjRep P (ρ.set n l) w' l o) : HeapRep P (ρ.set n l) ((n, o) :: heap) w' := by
  have hle := Ren.le_set (l := l) hf
  have old : ∀ m x, m ≠ n → get ((n, o) :: heap) m = some x → get heap m = some x := by
    intro m x hm hx
    have : Nat.beq n m = false := by rw [← Bool.not_eq_true, Nat.beq_eq]; exact fun e => hm e.symm
    simpa [get, this] using hx
  refine ⟨fun m x hm => ?_, fun m k x y l1 l2 hm hk hne hro h1 h2 c1 c2 => ?_⟩
  · by_cases hmn : m = n
    · subst hmn; simp [get] at hm; subst hm; exact ⟨l, Ren.set_same ρ m l, ho⟩
    · obtain ⟨l', hl', hx⟩ := h.1 m x (old m x hmn hm)
      exact ⟨l', hle _ _ hl', hx.keep hle (fun c => hs _ (hx.lt c))⟩
  · by_cases hmn : m = n
    · subst hmn
      rw [Ren.set_same] at h1; cases h1
      obtain ⟨l', hl', hx⟩ := h.1 k y (old k y (Ne.symm hne) hk)
      rw [hle _ _ hl'] at h2; cases h2
      have := hx.lt c2
      rw [hb]; omega
    · obtain ⟨l1', hl1, hx1⟩ := h.1 m x (old m x hmn hm)
      rw [hle _ _ hl1] at h1; cases h1
      by_cases hkn : k = n
      · subst hkn
        rw [Ren.set_same] at h2; cases h2
        have := hx1.lt c1
        rw [hb]; omega
      · obtain ⟨l2', hl2, hx2⟩ := h.1 k y (old k y hkn hk)
        rw [hle _ _ hl2] at h2; cases h2
        exact h.2 m k x y _ _ (old m x hmn hm) (old k y hkn hk) hne hro hl1 hl2 c1 c2

theorem HeapRep.del {P : Program} {ρ : Ren} {heap : List (Nat × AO)} {w : World} (h : HeapRep P ρ heap w) (b : Nat) : HeapRep P ρ (del heap b) w := by
  have key : ∀ n x, get (Ev.del heap b) n = some x → get heap n = some x := by
    intro n x hn
    rw [get_del] at hn
    by_cases hnb : n = b
    · simp [hnb] at hn
    · simpa [hnb] using hn
  exact ⟨fun n x hn => h.1 n x (key n x hn), fun n m x y l1 l2 hn hm => h.2 n m x y l1 l2 (key n x hn) (key m y hm)⟩

/-- The facts of a new name. -/
theorem new_spec {h h' : Hp} {o : AO} {n : Nat} (e : h.new o = some (n, h')) : n = h.nxt ∧ h.nxt < h.hi ∧ h' = { h with heap := (h.nxt, o) :: h.heap, nxt := h.nxt + 1 } := by
  unfold Hp.new at e
  split at e
  · rename_i hlt; cases e; exact ⟨rfl, by simpa [Nat.blt_eq] using hlt, rfl⟩
  · cases e

theorem new_mono {h h' : Hp} {o : AO} {n : Nat} (e : h.new o = some (n, h')) : Mono h h' := by
  obtain ⟨_, _, rfl⟩ := new_spec e
  exact ⟨fun _ x => x, by simp, rfl, fun _ x => x⟩

theorem new_ob {h h' : Hp} {o : AO} {n : Nat} (e : h.new o = some (n, h')) : h'.ob = h.ob := by obtain ⟨_, _, rfl⟩ := new_spec e; rfl

/-- A new block stands for a new object. -/
theorem new_step {P : Program} {ρ : Ren} {h h' : Hp} {w : World} {o : AO} {n : Nat} (e : h.new o = some (n, h')) (hr : HeapRep P ρ h.heap w) (hf : Fresh ρ h.nxt h.hi) (x : Obj) (l : Loc) (hb : l.blk = w.heap.size)
    (ho : ObjRep P (ρ.set n l) (w.alloc x) l o) : Step P ρ h w (ρ.set n l) h' (w.alloc x) ∧ ρ n = none := by
  obtain ⟨rfl, hlt, rfl⟩ := new_spec e
  have hn : ρ h.nxt = none := hf _ (Nat.le_refl _) hlt
  refine ⟨⟨Ren.le_set hn, ?_, HeapRep.new hr hn hb (fun k hk => heap_alloc_old w x hk) ho, ?_, ?_⟩, hn⟩
  · intro m l' e1 e2
    by_cases hm : m = h.nxt
    · subst hm; exact ⟨Nat.le_refl _, by simp⟩
    · simp [Ren.set, hm, e1] at e2
  · exact ⟨by simp, fun b hb _ => heap_alloc_old w x hb, rfl, rfl, rfl⟩
  · intro m o' l' h1 h2 h3 h4
    by_cases hm : m = h.nxt
    · subst hm; rw [Ren.set_same] at h2; cases h2; omega
    · have h1' : get h.heap m = some o' := by
        have : Nat.beq h.nxt m = false := by rw [← Bool.not_eq_true, Nat.beq_eq]; exact fun e => hm e.symm
        simpa [get, this] using h1
      obtain ⟨l0, hl0⟩ := hr.loc h1'
      rw [Ren.le_set hn m l0 hl0] at h2; cases h2
      exact ⟨m, o', _, h1', rfl, hl0, h3, rfl, .inl rfl⟩

/-- Another object in the place of one. -/
theorem put_step {P : Program} {ρ : Ren} {h : Hp} {w w' : World} {b : Nat} {o o' : AO} {l : Loc} (hr : HeapRep P ρ h.heap w) (e : get h.heap b = some o) (ro : o.ro = false) (ro' : o'.ro = false) (hl : ρ b = some l) (hc : l.cap ≠ 0)
    (hs : ∀ k, k ≠ l.blk → w'.heap[k]? = w.heap[k]?) (hsz : w.heap.size ≤ w'.heap.size) (ht : w'.tape = w.tape) (hos : w'.os = w.os) (hout : w'.output = w.output) (ho : ObjRep P ρ w' l o') : Step P ρ h w ρ (h.put b o') w' where
  le := Le.refl ρ
  new := fun n l a b => (by rw [a] at b; cases b)
  rep := HeapRep.put hr e ro ro' hl hc hs ho
  fr := ⟨hsz, fun k _ hn => hs k (fun x => hn ⟨b, mem_add.2 (.inl rfl), o, l, e, ro, hl, hc, x.symm⟩), ht, hos, hout⟩
  own := fun n o1 l1 h1 h2 h3 _ => by
    have h1' : get (set h.heap b o') n = some o1 := h1
    rw [get_set] at h1'
    by_cases hn : n = b
    · subst hn; simp at h1'; subst h1'; exact ⟨n, o, l1, e, ro.trans ro'.symm, h2, h3, rfl, .inl rfl⟩
    · simp [hn] at h1'; exact ⟨n, o1, l1, h1', rfl, h2, h3, rfl, .inl rfl⟩

/-! ### reading -/
theorem ofCell_ok {ρ : Ren} {k : CK} {x v : AV} {h h' : Hp} (e : ofCell k x h = some (v, h')) : Qt h h' ∧ ((∀ p ∈ h'.ob, p) → kindOk k x → ∀ y, den ρ x = some y → den ρ v = some y) ∧ v.oneCell = true := by
  unfold ofCell at e
  split at e
  · cases e
    refine ⟨.refl _, fun _ hk y hy => ?_, rfl⟩
    obtain ⟨n, rfl | rfl⟩ := hk <;> simpa [den, avInt] using hy
  · cases e
    refine ⟨.refl _, fun _ hk y hy => ?_, rfl⟩
    obtain ⟨n, rfl | rfl⟩ := hk <;> simpa [den, avBool] using hy
  · split at e
    · split at e
      · rename_i h1
        cases e
        refine ⟨⟨rfl, rfl, rfl, rfl, fun p hp => List.mem_cons_of_mem _ hp⟩, fun ho _ y hy => ?_, h1⟩
        have := ho _ (List.mem_cons_self ..)
        rw [← this]; exact hy
      · cases e
    · split at e
      · rename_i h1; cases e; exact ⟨.refl _, fun _ _ y hy => hy, h1⟩
      · cases e

theorem rowCells_ok {ρ : Ren} {sh : List CK} {f : Nat → AV} : ∀ (n : Nat) (j : Nat) (h h' : Hp) (l : List AV), rowCells sh f h n j = some (l, h') →
    Qt h h' ∧ l.length = n ∧ (∀ v ∈ l, v.oneCell = true) ∧ ((∀ p ∈ h'.ob, p) → (∀ (k : Nat) c, sh[k]? = some c → kindOk c (f k) ∧ ∃ x, den ρ (f k) = some x) →
      ∀ (k : Nat) v, l[k]? = some v → j + k < sh.length ∧ ∀ x, den ρ (f (j + k)) = some x → den ρ v = some x)
  | 0, j, h, h', l, e => by
    simp only [rowCells] at e; cases e
    exact ⟨.refl _, rfl, by simp, fun _ _ k v hk => by simp at hk⟩
  | n + 1, j, h, h', l, e => by
    simp only [rowCells] at e
    split at e
    · cases e
    · rename_i c hc
      split at e
      · cases e
      · rename_i v h1 h1e
        split at e
        · cases e
        · rename_i l' h2 h2e
          cases e
          obtain ⟨q1, o1, one1⟩ := ofCell_ok (ρ := ρ) h1e
          obtain ⟨q2, len2, one2, o2⟩ := rowCells_ok (ρ := ρ) n (j + 1) h1 h' l' h2e
          refine ⟨q1.trans q2, by simp [len2], ?_, fun ho hk k v' hv' => ?_⟩
          · intro v' hv'
            rcases List.mem_cons.1 hv' with rfl | hv'
            · exact one1
            · exact one2 v' hv'
          · rw [nth_eq] at hc
            cases k with
            | zero =>
              simp at hv'; subst hv'
              refine ⟨by simpa using (List.getElem?_eq_some_iff.1 hc).1, fun x hx => ?_⟩
              exact o1 (fun p hp => ho p (q2.ob p hp)) (hk j c hc).1 x (by simpa using hx)
            | succ k =>
              simp at hv'
              have := o2 ho hk k v' hv'
              refine ⟨by omega, fun x hx => this.2 x (by rw [← hx]; congr 2; omega)⟩

theorem allOne_mem : ∀ {l : List AV}, allOne l = true → ∀ v ∈ l, v.oneCell = true
  | [], _, v, hv => by simp at hv
  | x :: r, h, v, hv => by
    simp only [allOne] at h
    split at h
    · rename_i hx
      rcases List.mem_cons.1 hv with rfl | hv
      · exact hx
      · exact allOne_mem h v hv
    · cases h

theorem oneCell_known {v : AV} (h : v.oneCell = true) : v ≠ .top := by intro e; subst e; simp [AV.oneCell] at h

theorem relS_den {ρ : Ren} {v : AV} {x : Value} (h : relS ρ v x) (hk : v ≠ .top) : den ρ v = some x := h.resolve_left hk

theorem den_ptr {ρ : Ren} {b i j : Nat} {x : Value} (h : den ρ (.ptr b i j) = some x) : ∃ l, ρ b = some l ∧ l.isnil = false ∧ x = .pointer (some ⟨l.blk, l.base + i * l.wid + j, none⟩) := by
  simp only [den] at h
  cases hb : ρ b with
  | none => simp [hb] at h
  | some l =>
    rw [hb] at h
    cases hn : l.isnil with
    | true => simp [hn] at h
    | false => simp [hn] at h; exact ⟨l, rfl, hn, h.symm⟩

theorem loadN_ok {P : Program} {ρ : Ren} {h h' : Hp} {w : World} {b i j n : Nat} {vs : List AV} (e : loadN h b i j n = some (vs, h')) :
    Qt h h' ∧ vs.length = n ∧ (∀ v ∈ vs, v.oneCell = true) ∧ ((∀ p ∈ h'.ob, p) → HeapRep P ρ h.heap w → ∀ l, ρ b = some l →
      ∃ xs, denL ρ vs = some xs ∧ ∀ (k : Nat) x, xs[k]? = some x → w.cell? ⟨l.blk, l.base + i * l.wid + j + k, none⟩ = some x) := by
  unfold loadN at e
  split at e
  · rename_i wd cs hg
    split at e
    · rename_i t ht
      split at e
      · rename_i ha
        cases e
        obtain ⟨hlen, rfl⟩ := takeN_eq _ _ _ ht
        have hone := allOne_mem ha
        rw [dropN_eq] at hlen hone ha ⊢
        simp only [List.length_drop] at hlen
        refine ⟨.refl _, by simp; omega, hone, fun _ hr l hl => ?_⟩
        have ho := hr.obj hg hl
        obtain ⟨h0, h1, h2, c, ty, fr, hb, hf, hc, hc2, hv⟩ := ho
        let xs : List Value := ((cs.drop (i * wd + j)).take n).zipIdx.map fun p => (c[l.base + (i * wd + j + p.2)]?).getD undef
        have hxs : ∀ (k : Nat), k < n → c[l.base + (i * wd + j + k)]? = xs[k]? := by
          intro k hk
          have : l.base + (i * wd + j + k) < c.size := by omega
          simp only [xs, List.getElem?_map, List.getElem?_zipIdx, List.getElem?_take, hk, if_true, List.getElem?_drop]
          have hk2 : i * wd + j + k < cs.length := by omega
          simp [List.getElem?_eq_getElem hk2, Array.getElem?_eq_getElem this]
        refine ⟨xs, denL_of _ _ (by simp [xs]) (fun k v hk => ?_), fun k x hk => ?_⟩
        · have hkn : k < n := by
            have := (List.getElem?_eq_some_iff.1 hk).1
            simp at this; omega
          rw [List.getElem?_take, if_pos hkn, List.getElem?_drop] at hk
          obtain ⟨x, hx, hrel⟩ := hv _ v hk
          rw [hxs k hkn] at hx
          refine ⟨x, hx, relS_den hrel (oneCell_known (hone v ?_))⟩
          refine List.mem_of_getElem? (i := k) ?_
          rw [List.getElem?_take, if_pos hkn, List.getElem?_drop]; exact hk
        · have hkn : k < n := by
            have := (List.getElem?_eq_some_iff.1 hk).1
            simp [xs] at this; omega
          rw [cell_of_row w l.blk _ c ty fr hb, ← hk, ← hxs k hkn, h2]
          congr 1; omega
      · cases e
    · cases e
  · rename_i wd sh ro len f hg
    split at e
    · rename_i hle
      split at e
      · rename_i h1 hn
        obtain ⟨q1, o1⟩ := need_qt hn
        obtain ⟨q2, len2, one2, o2⟩ := rowCells_ok (ρ := ρ) n j h1 h' vs e
        refine ⟨q1.trans q2, len2, one2, fun ho hr l hl => ?_⟩
        have hi := o1 (fun p hp => ho p (q2.ob p hp))
        simp [Nat.blt_eq] at hi
        obtain ⟨h1, h2, h3, h4, h5⟩ := hr.obj hg hl
        have hcap : l.cap ≠ 0 := by omega
        obtain ⟨c, ty, fr, hb, hf, hc2, hv⟩ := h5 hcap
        have hrow := o2 ho (fun k ck hk => let ⟨a, x, _, hx⟩ := hv i hi k ck hk; ⟨a, x, hx⟩)
        have hle' : j + n ≤ wd := by simpa using hle
        let xs : List Value := (List.range n).map fun k => (c[l.base + i * wd + (j + k)]?).getD undef
        have hx : ∀ (k : Nat), k < n → ∃ x, xs[k]? = some x ∧ c[l.base + i * wd + (j + k)]? = some x ∧ den ρ (f i (j + k)) = some x := by
          intro k hk
          have hs : j + k < sh.length := by omega
          obtain ⟨_, x, hx, hd⟩ := hv i hi (j + k) _ (List.getElem?_eq_getElem hs)
          exact ⟨x, by simp [xs, hk, hx], hx, hd⟩
        refine ⟨xs, denL_of _ _ (by simp [xs, len2]) (fun k v hk => ?_), fun k x hk => ?_⟩
        · have hkn : k < n := by have := (List.getElem?_eq_some_iff.1 hk).1; omega
          obtain ⟨x, a1, a2, a3⟩ := hx k hkn
          exact ⟨x, a1, (hrow k v hk).2 x a3⟩
        · have hkn : k < n := by have := (List.getElem?_eq_some_iff.1 hk).1; simp [xs] at this; omega
          obtain ⟨x', a1, a2, a3⟩ := hx k hkn
          rw [a1] at hk; cases hk
          rw [cell_of_row w l.blk _ c ty fr hb, h1, ← a2]
          congr 1; omega
      · cases e
    · cases e
  · cases e

theorem loadA_ok {P : Program} {ρ : Ren} {h h' : Hp} {w : World} {t : TypeId} {v r : AV} (e : loadA P t v h = some (r, h')) :
    Qt h h' ∧ r ≠ .top ∧ ((∀ p ∈ h'.ob, p) → HeapRep P ρ h.heap w → ∀ x, den ρ v = some x → ∃ y, (Instr.loadAt t x).run P w = .ok y w ∧ den ρ r = some y) := by
  unfold loadA at e
  split at e
  · rename_i b i j n ha hn
    split at e
    · rename_i l h1 he
      cases e
      obtain ⟨q, len, one, o⟩ := loadN_ok (P := P) (ρ := ρ) (w := w) he
      refine ⟨q, by simp, fun ho hr x hx => ?_⟩
      obtain ⟨L, hL, hnil, rfl⟩ := den_ptr hx
      obtain ⟨xs, hxs, hc⟩ := o ho hr L hL
      refine ⟨.agg xs.toArray, ?_, by simp [den, hxs]⟩
      have hlen : xs.length = n := by rw [← denL_length _ _ hxs, len]
      have hrun := run_loadCells_list (P := P) w ⟨L.blk, L.base + i * L.wid + j, none⟩ xs (fun k y hk => by
        have := hc k y hk
        unfold Addr.add
        split
        · rename_i hk0; subst hk0; simpa using this
        · exact this)
      rw [hlen] at hrun
      simp only [Instr.loadAt, Instr.sureAddr, loadVar, pure_bind, Sem.run_bind, run_isAgg ha, Result.andThen_ok, if_true, run_sizeOf hn, hrun, Sem.run_pure]
    · cases e
  · rename_i b i j n ha hn
    split at e
    · rename_i x1 h1 he
      cases e
      obtain ⟨q, len, one, o⟩ := loadN_ok (P := P) (ρ := ρ) (w := w) he
      refine ⟨q, oneCell_known (one _ (List.mem_singleton.2 rfl)), fun ho hr x hx => ?_⟩
      obtain ⟨L, hL, hnil, rfl⟩ := den_ptr hx
      obtain ⟨xs, hxs, hc⟩ := o ho hr L hL
      have hlen : xs.length = 1 := by rw [← denL_length _ _ hxs, len]
      obtain ⟨y, rfl⟩ : ∃ y, xs = [y] := by
        match xs, hlen with
        | [y], _ => exact ⟨y, rfl⟩
      have hc0 := hc 0 y rfl
      obtain ⟨y', hy', hd⟩ := denL_get _ _ hxs 0 r rfl
      simp at hy'; subst hy'
      refine ⟨y, ?_, hd⟩
      simp only [Nat.add_zero] at hc0
      simp [Instr.loadAt, Instr.sureAddr, loadVar, run_isAgg ha, hc0]
    · cases e
  · cases e

end Go.Ev
