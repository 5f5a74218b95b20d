/-
  EvMem and what follows it.
-/
import Derived.Test.YtljeiencnpnbkaaDoorEvCore
import Derived.ChangeKeysEq
/-
  How memory is read, written and made: the soundness of the evaluator, second part.
-/
set_option linter.unusedSimpArgs false
set_option linter.unusedVariables false
namespace Go.Ev

/-! ### small runs -/
section
variable {P : Program} {w : World}

theorem run_underlying' {t : TypeId} {d : TypeDesc} (h : P.underlying t = some d) : (underlying t).run P w = .ok d w := by
  simp [underlying, h]

theorem run_sizeOf {t : TypeId} {n : Nat} (h : sizeT P t = some n) : (sizeOf t).run P w = .ok n w := by
  unfold sizeT at h
  cases hi : P.info? t with
  | none => simp [hi] at h
  | some i => simp [hi] at h; simp [sizeOf, typeInfo, hi, h]

theorem run_isAgg {t : TypeId} {b : Bool} (h : isAggT P t = some b) : (isAgg t).run P w = .ok b w := by
  unfold isAggT at h
  split at h
  · rename_i hu; cases h; simp [isAgg, run_underlying' hu]
  · rename_i hu; cases h; simp [isAgg, run_underlying' hu]
  · rename_i d h1 h2 hu; cases h
    simp only [isAgg, Sem.run_bind, run_underlying' hu, Result.andThen_ok]
    cases d <;> simp_all
  · cases h

theorem run_zero {t : TypeId} {z : AV} (h : zeroT P t = some z) : ∃ v, (zeroValue t).run P w = .ok v w ∧ z = ofVal v := by
  unfold zeroT at h
  split at h
  · rename_i i hi
    split at h
    · rename_i v hv; cases h; exact ⟨v, by simp [zeroValue, typeInfo, hi, hv], rfl⟩
    · cases h
  · cases h
end

/-! ### abstract steps that leave memory alone -/
structure Qt (h h' : Hp) : Prop where
  heap : h'.heap = h.heap
  nxt : h'.nxt = h.nxt
  hi : h'.hi = h.hi
  wr : h'.wr = h.wr
  ob : ∀ p ∈ h.ob, p ∈ h'.ob

theorem Qt.refl (h : Hp) : Qt h h := ⟨rfl, rfl, rfl, rfl, fun _ x => x⟩
theorem Qt.trans {h h' h'' : Hp} (a : Qt h h') (b : Qt h' h'') : Qt h h'' :=
  ⟨b.heap.trans a.heap, b.nxt.trans a.nxt, b.hi.trans a.hi, b.wr.trans a.wr, fun p x => b.ob p (a.ob p x)⟩
theorem Qt.mono {h h' : Hp} (a : Qt h h') : Mono h h' := ⟨a.ob, Nat.le_of_eq a.nxt.symm, a.hi, fun n x => by rw [a.wr]; exact x⟩

theorem need_qt {h h' : Hp} {b : Bool} (e : h.need b = some h') : Qt h h' ∧ ((∀ p ∈ h'.ob, p) → b = true) := by
  unfold Hp.need at e
  split at e
  · split at e
    · cases e; exact ⟨.refl _, fun _ => rfl⟩
    · cases e
  · cases e; exact ⟨⟨rfl, rfl, rfl, rfl, fun p hp => List.mem_cons_of_mem _ hp⟩, fun ho => ho _ (List.mem_cons_self ..)⟩

theorem check_qt {h h' : Hp} {c b : Bool} (e : h.check c b = some h') : Qt h h' ∧ ((∀ p ∈ h'.ob, p) → b = true) := by
  unfold Hp.check at e
  split at e
  · split at e
    · cases e; exact ⟨.refl _, fun _ => rfl⟩
    · cases e
  · exact need_qt e

theorem dec_qt {h h' : Hp} {v : AV} {b : Bool} (e : h.dec v = some (b, h')) : Qt h h' ∧ ((∀ p ∈ h'.ob, p) → v = .bool b ∨ v = .symb b) := by
  unfold Hp.dec at e
  split at e
  · cases e; exact ⟨.refl _, fun _ => .inl rfl⟩
  · split at e
    · split at e
      · cases e; exact ⟨⟨rfl, rfl, rfl, rfl, fun p hp => hp⟩, fun _ => .inr rfl⟩
      · split at e
        · cases e
          refine ⟨⟨rfl, rfl, rfl, rfl, fun p hp => List.mem_cons_of_mem _ hp⟩, fun ho => .inr ?_⟩
          have := ho _ (List.mem_cons_self ..)
          rw [this]
        · cases e
        · split at e
          · cases e; exact ⟨.refl _, fun _ => .inr rfl⟩
          · cases e
    · split at e
      · cases e; exact ⟨.refl _, fun _ => .inr rfl⟩
      · split at e
        · cases e
          refine ⟨⟨rfl, rfl, rfl, rfl, fun p hp => List.mem_cons_of_mem _ hp⟩, fun ho => .inr ?_⟩
          have := ho _ (List.mem_cons_self ..)
          rw [this]
        · cases e
  · cases e

theorem literal_qt {h h' : Hp} {v : AV} {m : Nat} (e : h.literal v = some (m, h')) : Qt h h' ∧ ((∀ p ∈ h'.ob, p) → ∃ k, v = .int k (m : Int) ∨ v = .sym k (m : Int)) := by
  unfold Hp.literal at e
  split at e
  · split at e
    · cases e; exact ⟨.refl _, fun _ => ⟨_, .inl rfl⟩⟩
    · cases e
  · split at e
    · split at e
      · split at e
        · cases e; exact ⟨⟨rfl, rfl, rfl, rfl, fun p hp => hp⟩, fun _ => ⟨_, .inr rfl⟩⟩
        · cases e
      · split at e
        · cases e
          refine ⟨⟨rfl, rfl, rfl, rfl, fun p hp => List.mem_cons_of_mem _ hp⟩, fun ho => ?_⟩
          have := ho _ (List.mem_cons_self ..)
          exact ⟨_, .inr (by rw [this]; rfl)⟩
        · split at e
          · split at e
            · cases e; exact ⟨.refl _, fun _ => ⟨_, .inr rfl⟩⟩
            · cases e
          · cases e
    · split at e
      · split at e
        · cases e; exact ⟨.refl _, fun _ => ⟨_, .inr rfl⟩⟩
        · cases e
      · split at e
        · cases e
          refine ⟨⟨rfl, rfl, rfl, rfl, fun p hp => List.mem_cons_of_mem _ hp⟩, fun ho => ?_⟩
          have := ho _ (List.mem_cons_self ..)
          exact ⟨_, .inr (by rw [this]; rfl)⟩
        · cases e
  · cases e

theorem asI_den {ρ : Ren} {v : AV} {k : IntKind} {c : Bool} {n : Int} (h : asI v = some (k, c, n)) : den ρ v = some (.int k n) ∧ v ≠ .top := by
  unfold asI at h
  split at h <;> cases h <;> simp [den]

theorem asB_den {ρ : Ren} {v : AV} {c b : Bool} (h : asB v = some (c, b)) : den ρ v = some (.bool b) ∧ v ≠ .top := by
  unfold asB at h
  split at h <;> cases h <;> simp [den]

theorem mkI_den {ρ : Ren} {k : IntKind} {c : Bool} {n : Int} : den ρ (mkI k c n) = some (.int k n) := by cases c <;> simp [mkI, den]
theorem mkB_den {ρ : Ren} {c b : Bool} : den ρ (mkB c b) = some (.bool b) := by cases c <;> simp [mkB, den]

theorem index_qt {h h' : Hp} {v : AV} {b m : Nat} (e : h.index v b = some (m, h')) : Qt h h' ∧ ((∀ p ∈ h'.ob, p) → m < b ∧ ∃ k, v = .int k (m : Int) ∨ v = .sym k (m : Int)) := by
  unfold Hp.index at e
  split at e
  · rename_i k c n hn
    split at e
    · rename_i h1 he
      cases e
      have := need_qt he
      refine ⟨this.1, fun ho => ?_⟩
      have h2 := this.2 ho
      simp [Nat.blt_eq] at h2
      refine ⟨h2.1, k, ?_⟩
      unfold asI at hn
      split at hn <;> cases hn
      · left; congr 1; omega
      · right; congr 1; omega
    · cases e
  · cases e

theorem bound_qt {h h' : Hp} {ex : Bool} {v : AV} {b m : Nat} (e : bound ex v b h = some (m, h')) : Qt h h' ∧ ((∀ p ∈ h'.ob, p) → m ≤ b ∧ ∃ k, v = .int k (m : Int) ∨ v = .sym k (m : Int)) := by
  unfold bound at e
  split at e
  · split at e
    · rename_i m' h1 he
      split at e
      · rename_i hle
        cases e
        have := literal_qt he
        exact ⟨this.1, fun ho => ⟨by simpa using hle, this.2 ho⟩⟩
      · cases e
    · cases e
  · split at e
    · rename_i k c n hn
      split at e
      · rename_i h1 he
        cases e
        have := need_qt he
        refine ⟨this.1, fun ho => ?_⟩
        have h2 := this.2 ho
        simp at h2
        refine ⟨by omega, k, ?_⟩
        unfold asI at hn
        split at hn <;> cases hn
        · left; congr 1; omega
        · right; congr 1; omega
      · cases e
    · cases e

/-! ### renamings -/
def Ren.set (ρ : Ren) (n : Nat) (l : Loc) : Ren := fun m => if m = n then some l else ρ m

theorem Ren.set_same (ρ : Ren) (n : Nat) (l : Loc) : ρ.set n l n = some l := by simp [Ren.set]
theorem Ren.le_set {ρ : Ren} {n : Nat} {l : Loc} (h : ρ n = none) : Le ρ (ρ.set n l) := by
  intro m l' e
  have : m ≠ n := fun x => by subst x; rw [h] at e; cases e
  simp [Ren.set, this, e]

theorem HeapRep.obj {P : Program} {ρ : Ren} {heap : List (Nat × AO)} {w : World} (h : HeapRep P ρ heap w) {b : Nat} {o : AO} (e : get heap b = some o) {l : Loc} (hl : ρ b = some l) : ObjRep P ρ w l o := by
  obtain ⟨l', h1, h2⟩ := h.1 b o e
  rw [hl] at h1; cases h1; exact h2

/-- Another object in the place of one. -/
theorem HeapRep.put {P : Program} {ρ : Ren} {heap : List (Nat × AO)} {w w' : World} (h : HeapRep P ρ heap w) {b : Nat} {o o' : AO} (e : get heap b = some o) (ro : o.ro = false) (ro' : o'.ro = false) {l : Loc} (hl : ρ b = some l) (hc : l.cap ≠ 0)
    (hs : ∀ k, k ≠ l.blk → w'.heap[k]? = w.heap[k]?) (ho : ObjRep P ρ w' l o') : HeapRep P ρ (set heap b o') w' := by
  refine ⟨fun n x hn => ?_, fun n m x y l1 l2 hn hm hne hro h1 h2 c1 c2 => ?_⟩
  · rw [get_set] at hn
    by_cases hnb : n = b
    · subst hnb; simp at hn; subst hn; exact ⟨l, hl, ho⟩
    · simp [hnb] at hn
      obtain ⟨l', hl', hx⟩ := h.1 n x hn
      exact ⟨l', hl', hx.keep (Le.refl ρ) (fun c => hs _ (h.2 n b x o l' l hn e hnb (by rw [ro, Bool.and_false]) hl' hl c hc))⟩
  · have key : ∀ n x, get (Ev.set heap b o') n = some x → ∃ x', get heap n = some x' ∧ x'.ro = x.ro := by
      intro n x hn
      rw [get_set] at hn
      by_cases hnb : n = b
      · subst hnb; simp at hn; subst hn; exact ⟨o, e, ro.trans ro'.symm⟩
      · simp [hnb] at hn; exact ⟨x, hn, rfl⟩
    obtain ⟨x', hx', rx⟩ := key n x hn
    obtain ⟨y', hy', ry⟩ := key m y hm
    exact h.2 n m x' y' l1 l2 hx' hy' hne (by rw [rx, ry]; exact hro) h1 h2 c1 c2

/-- A new object. -/
theorem HeapRep.new {P : Program} {ρ : Ren} {heap : List (Nat × AO)} {w w' : World} (h : HeapRep P ρ heap w) {n : Nat} {o : AO} {l : Loc} (hf : ρ n = none) (hb : l.blk = w.heap.size)
    (hs : ∀ k, k < w.heap.size → w'.heap[k]? = w.heap[k]?) (ho : ObjRep P (ρ.set n l) w' l o) : HeapRep P (ρ.set n l) ((n, o) :: heap) w' := by
  have hle := Ren.le_set (l := l) hf
  have old : ∀ m x, m ≠ n → get ((n, o) :: heap) m = some x → get heap m = some x := by
    intro m x hm hx
    have : Nat.beq n m = false := by rw [← Bool.not_eq_true, Nat.beq_eq]; exact fun e => hm e.symm
    simpa [get, this] using hx
  refine ⟨fun m x hm => ?_, fun m k x y l1 l2 hm hk hne hro h1 h2 c1 c2 => ?_⟩
  · by_cases hmn : m = n
    · subst hmn; simp [get] at hm; subst hm; exact ⟨l, Ren.set_same ρ m l, ho⟩
    · obtain ⟨l', hl', hx⟩ := h.1 m x (old m x hmn hm)
      exact ⟨l', hle _ _ hl', hx.keep hle (fun c => hs _ (hx.lt c))⟩
  · by_cases hmn : m = n
    · subst hmn
      rw [Ren.set_same] at h1; cases h1
      obtain ⟨l', hl', hx⟩ := h.1 k y (old k y (Ne.symm hne) hk)
      rw [hle _ _ hl'] at h2; cases h2
      have := hx.lt c2
      rw [hb]; omega
    · obtain ⟨l1', hl1, hx1⟩ := h.1 m x (old m x hmn hm)
      rw [hle _ _ hl1] at h1; cases h1
      by_cases hkn : k = n
      · subst hkn
        rw [Ren.set_same] at h2; cases h2
        have := hx1.lt c1
        rw [hb]; omega
      · obtain ⟨l2', hl2, hx2⟩ := h.1 k y (old k y hkn hk)
        rw [hle _ _ hl2] at h2; cases h2
        exact h.2 m k x y _ _ (old m x hmn hm) (old k y hkn hk) hne hro hl1 hl2 c1 c2

theorem HeapRep.del {P : Program} {ρ : Ren} {heap : List (Nat × AO)} {w : World} (h : HeapRep P ρ heap w) (b : Nat) : HeapRep P ρ (del heap b) w := by
  have key : ∀ n x, get (Ev.del heap b) n = some x → get heap n = some x := by
    intro n x hn
    rw [get_del] at hn
    by_cases hnb : n = b
    · simp [hnb] at hn
    · simpa [hnb] using hn
  exact ⟨fun n x hn => h.1 n x (key n x hn), fun n m x y l1 l2 hn hm => h.2 n m x y l1 l2 (key n x hn) (key m y hm)⟩

/-- The facts of a new name. -/
theorem new_spec {h h' : Hp} {o : AO} {n : Nat} (e : h.new o = some (n, h')) : n = h.nxt ∧ h.nxt < h.hi ∧ h' = { h with heap := (h.nxt, o) :: h.heap, nxt := h.nxt + 1 } := by
  unfold Hp.new at e
  split at e
  · rename_i hlt; cases e; exact ⟨rfl, by simpa [Nat.blt_eq] using hlt, rfl⟩
  · cases e

theorem new_mono {h h' : Hp} {o : AO} {n : Nat} (e : h.new o = some (n, h')) : Mono h h' := by
  obtain ⟨_, _, rfl⟩ := new_spec e
  exact ⟨fun _ x => x, by simp, rfl, fun _ x => x⟩

theorem new_ob {h h' : Hp} {o : AO} {n : Nat} (e : h.new o = some (n, h')) : h'.ob = h.ob := by obtain ⟨_, _, rfl⟩ := new_spec e; rfl

/-- A new block stands for a new object. -/
theorem new_step {P : Program} {ρ : Ren} {h h' : Hp} {w : World} {o : AO} {n : Nat} (e : h.new o = some (n, h')) (hr : HeapRep P ρ h.heap w) (hf : Fresh ρ h.nxt h.hi) (x : Obj) (l : Loc) (hb : l.blk = w.heap.size)
    (ho : ObjRep P (ρ.set n l) (w.alloc x) l o) : Step P ρ h w (ρ.set n l) h' (w.alloc x) ∧ ρ n = none := by
  obtain ⟨rfl, hlt, rfl⟩ := new_spec e
  have hn : ρ h.nxt = none := hf _ (Nat.le_refl _) hlt
  refine ⟨⟨Ren.le_set hn, ?_, HeapRep.new hr hn hb (fun k hk => heap_alloc_old w x hk) ho, ?_, ?_⟩, hn⟩
  · intro m l' e1 e2
    by_cases hm : m = h.nxt
    · subst hm; exact ⟨Nat.le_refl _, by simp⟩
    · simp [Ren.set, hm, e1] at e2
  · exact ⟨by simp, fun b hb _ => heap_alloc_old w x hb, rfl, rfl, rfl⟩
  · intro m o' l' h1 h2 h3 h4
    by_cases hm : m = h.nxt
    · subst hm; rw [Ren.set_same] at h2; cases h2; omega
    · have h1' : get h.heap m = some o' := by
        have : Nat.beq h.nxt m = false := by rw [← Bool.not_eq_true, Nat.beq_eq]; exact fun e => hm e.symm
        simpa [get, this] using h1
      obtain ⟨l0, hl0⟩ := hr.loc h1'
      rw [Ren.le_set hn m l0 hl0] at h2; cases h2
      exact ⟨m, o', _, h1', rfl, hl0, h3, rfl, .inl rfl⟩

/-- Another object in the place of one. -/
theorem put_step {P : Program} {ρ : Ren} {h : Hp} {w w' : World} {b : Nat} {o o' : AO} {l : Loc} (hr : HeapRep P ρ h.heap w) (e : get h.heap b = some o) (ro : o.ro = false) (ro' : o'.ro = false) (hl : ρ b = some l) (hc : l.cap ≠ 0)
    (hs : ∀ k, k ≠ l.blk → w'.heap[k]? = w.heap[k]?) (hsz : w.heap.size ≤ w'.heap.size) (ht : w'.tape = w.tape) (hos : w'.os = w.os) (hout : w'.output = w.output) (ho : ObjRep P ρ w' l o') : Step P ρ h w ρ (h.put b o') w' where
  le := Le.refl ρ
  new := fun n l a b => (by rw [a] at b; cases b)
  rep := HeapRep.put hr e ro ro' hl hc hs ho
  fr := ⟨hsz, fun k _ hn => hs k (fun x => hn ⟨b, mem_add.2 (.inl rfl), o, l, e, ro, hl, hc, x.symm⟩), ht, hos, hout⟩
  own := fun n o1 l1 h1 h2 h3 _ => by
    have h1' : get (set h.heap b o') n = some o1 := h1
    rw [get_set] at h1'
    by_cases hn : n = b
    · subst hn; simp at h1'; subst h1'; exact ⟨n, o, l1, e, ro.trans ro'.symm, h2, h3, rfl, .inl rfl⟩
    · simp [hn] at h1'; exact ⟨n, o1, l1, h1', rfl, h2, h3, rfl, .inl rfl⟩

/-! ### reading -/
theorem ofCell_ok {ρ : Ren} {k : CK} {x v : AV} {h h' : Hp} (e : ofCell k x h = some (v, h')) : Qt h h' ∧ ((∀ p ∈ h'.ob, p) → kindOk k x → ∀ y, den ρ x = some y → den ρ v = some y) ∧ v.oneCell = true := by
  unfold ofCell at e
  split at e
  · cases e
    refine ⟨.refl _, fun _ hk y hy => ?_, rfl⟩
    obtain ⟨n, rfl | rfl⟩ := hk <;> simpa [den, avInt] using hy
  · cases e
    refine ⟨.refl _, fun _ hk y hy => ?_, rfl⟩
    obtain ⟨n, rfl | rfl⟩ := hk <;> simpa [den, avBool] using hy
  · split at e
    · split at e
      · rename_i h1
        cases e
        refine ⟨⟨rfl, rfl, rfl, rfl, fun p hp => List.mem_cons_of_mem _ hp⟩, fun ho _ y hy => ?_, h1⟩
        have := ho _ (List.mem_cons_self ..)
        rw [← this]; exact hy
      · cases e
    · split at e
      · rename_i h1; cases e; exact ⟨.refl _, fun _ _ y hy => hy, h1⟩
      · cases e

theorem rowCells_ok {ρ : Ren} {sh : List CK} {f : Nat → AV} : ∀ (n : Nat) (j : Nat) (h h' : Hp) (l : List AV), rowCells sh f h n j = some (l, h') →
    Qt h h' ∧ l.length = n ∧ (∀ v ∈ l, v.oneCell = true) ∧ ((∀ p ∈ h'.ob, p) → (∀ (k : Nat) c, sh[k]? = some c → kindOk c (f k) ∧ ∃ x, den ρ (f k) = some x) →
      ∀ (k : Nat) v, l[k]? = some v → j + k < sh.length ∧ ∀ x, den ρ (f (j + k)) = some x → den ρ v = some x)
  | 0, j, h, h', l, e => by
    simp only [rowCells] at e; cases e
    exact ⟨.refl _, rfl, by simp, fun _ _ k v hk => by simp at hk⟩
  | n + 1, j, h, h', l, e => by
    simp only [rowCells] at e
    split at e
    · cases e
    · rename_i c hc
      split at e
      · cases e
      · rename_i v h1 h1e
        split at e
        · cases e
        · rename_i l' h2 h2e
          cases e
          obtain ⟨q1, o1, one1⟩ := ofCell_ok (ρ := ρ) h1e
          obtain ⟨q2, len2, one2, o2⟩ := rowCells_ok (ρ := ρ) n (j + 1) h1 h' l' h2e
          refine ⟨q1.trans q2, by simp [len2], ?_, fun ho hk k v' hv' => ?_⟩
          · intro v' hv'
            rcases List.mem_cons.1 hv' with rfl | hv'
            · exact one1
            · exact one2 v' hv'
          · rw [nth_eq] at hc
            cases k with
            | zero =>
              simp at hv'; subst hv'
              refine ⟨by simpa using (List.getElem?_eq_some_iff.1 hc).1, fun x hx => ?_⟩
              exact o1 (fun p hp => ho p (q2.ob p hp)) (hk j c hc).1 x (by simpa using hx)
            | succ k =>
              simp at hv'
              have := o2 ho hk k v' hv'
              refine ⟨by omega, fun x hx => this.2 x (by rw [← hx]; congr 2; omega)⟩

theorem allOne_mem : ∀ {l : List AV}, allOne l = true → ∀ v ∈ l, v.oneCell = true
  | [], _, v, hv => by simp at hv
  | x :: r, h, v, hv => by
    simp only [allOne] at h
    split at h
    · rename_i hx
      rcases List.mem_cons.1 hv with rfl | hv
      · exact hx
      · exact allOne_mem h v hv
    · cases h

theorem oneCell_known {v : AV} (h : v.oneCell = true) : v ≠ .top := by intro e; subst e; simp [AV.oneCell] at h

theorem relS_den {ρ : Ren} {v : AV} {x : Value} (h : relS ρ v x) (hk : v ≠ .top) : den ρ v = some x := h.resolve_left hk

theorem den_ptr {ρ : Ren} {b i j : Nat} {x : Value} (h : den ρ (.ptr b i j) = some x) : ∃ l, ρ b = some l ∧ l.isnil = false ∧ x = .pointer (some ⟨l.blk, l.base + i * l.wid + j, none⟩) := by
  simp only [den] at h
  cases hb : ρ b with
  | none => simp [hb] at h
  | some l =>
    rw [hb] at h
    cases hn : l.isnil with
    | true => simp [hn] at h
    | false => simp [hn] at h; exact ⟨l, rfl, hn, h.symm⟩

theorem loadN_ok {P : Program} {ρ : Ren} {h h' : Hp} {w : World} {b i j n : Nat} {vs : List AV} (e : loadN h b i j n = some (vs, h')) :
    Qt h h' ∧ vs.length = n ∧ (∀ v ∈ vs, v.oneCell = true) ∧ ((∀ p ∈ h'.ob, p) → HeapRep P ρ h.heap w → ∀ l, ρ b = some l →
      ∃ xs, denL ρ vs = some xs ∧ ∀ (k : Nat) x, xs[k]? = some x → w.cell? ⟨l.blk, l.base + i * l.wid + j + k, none⟩ = some x) := by
  unfold loadN at e
  split at e
  · rename_i wd cs hg
    split at e
    · rename_i t ht
      split at e
      · rename_i ha
        cases e
        obtain ⟨hlen, rfl⟩ := takeN_eq _ _ _ ht
        have hone := allOne_mem ha
        rw [dropN_eq] at hlen hone ha ⊢
        simp only [List.length_drop] at hlen
        refine ⟨.refl _, by simp; omega, hone, fun _ hr l hl => ?_⟩
        have ho := hr.obj hg hl
        obtain ⟨h0, h1, h2, c, ty, fr, hb, hf, hc, hc2, hv⟩ := ho
        let xs : List Value := ((cs.drop (i * wd + j)).take n).zipIdx.map fun p => (c[l.base + (i * wd + j + p.2)]?).getD undef
        have hxs : ∀ (k : Nat), k < n → c[l.base + (i * wd + j + k)]? = xs[k]? := by
          intro k hk
          have : l.base + (i * wd + j + k) < c.size := by omega
          simp only [xs, List.getElem?_map, List.getElem?_zipIdx, List.getElem?_take, hk, if_true, List.getElem?_drop]
          have hk2 : i * wd + j + k < cs.length := by omega
          simp [List.getElem?_eq_getElem hk2, Array.getElem?_eq_getElem this]
        refine ⟨xs, denL_of _ _ (by simp [xs]) (fun k v hk => ?_), fun k x hk => ?_⟩
        · have hkn : k < n := by
            have := (List.getElem?_eq_some_iff.1 hk).1
            simp at this; omega
          rw [List.getElem?_take, if_pos hkn, List.getElem?_drop] at hk
          obtain ⟨x, hx, hrel⟩ := hv _ v hk
          rw [hxs k hkn] at hx
          refine ⟨x, hx, relS_den hrel (oneCell_known (hone v ?_))⟩
          refine List.mem_of_getElem? (i := k) ?_
          rw [List.getElem?_take, if_pos hkn, List.getElem?_drop]; exact hk
        · have hkn : k < n := by
            have := (List.getElem?_eq_some_iff.1 hk).1
            simp [xs] at this; omega
          rw [cell_of_row w l.blk _ c ty fr hb, ← hk, ← hxs k hkn, h2]
          congr 1; omega
      · cases e
    · cases e
  · rename_i wd sh ro len f hg
    split at e
    · rename_i hle
      split at e
      · rename_i h1 hn
        obtain ⟨q1, o1⟩ := need_qt hn
        obtain ⟨q2, len2, one2, o2⟩ := rowCells_ok (ρ := ρ) n j h1 h' vs e
        refine ⟨q1.trans q2, len2, one2, fun ho hr l hl => ?_⟩
        have hi := o1 (fun p hp => ho p (q2.ob p hp))
        simp [Nat.blt_eq] at hi
        obtain ⟨h1, h2, h3, h4, h5⟩ := hr.obj hg hl
        have hcap : l.cap ≠ 0 := by omega
        obtain ⟨c, ty, fr, hb, hf, hc2, hv⟩ := h5 hcap
        have hrow := o2 ho (fun k ck hk => let ⟨a, x, _, hx⟩ := hv i hi k ck hk; ⟨a, x, hx⟩)
        have hle' : j + n ≤ wd := by simpa using hle
        let xs : List Value := (List.range n).map fun k => (c[l.base + i * wd + (j + k)]?).getD undef
        have hx : ∀ (k : Nat), k < n → ∃ x, xs[k]? = some x ∧ c[l.base + i * wd + (j + k)]? = some x ∧ den ρ (f i (j + k)) = some x := by
          intro k hk
          have hs : j + k < sh.length := by omega
          obtain ⟨_, x, hx, hd⟩ := hv i hi (j + k) _ (List.getElem?_eq_getElem hs)
          exact ⟨x, by simp [xs, hk, hx], hx, hd⟩
        refine ⟨xs, denL_of _ _ (by simp [xs, len2]) (fun k v hk => ?_), fun k x hk => ?_⟩
        · have hkn : k < n := by have := (List.getElem?_eq_some_iff.1 hk).1; omega
          obtain ⟨x, a1, a2, a3⟩ := hx k hkn
          exact ⟨x, a1, (hrow k v hk).2 x a3⟩
        · have hkn : k < n := by have := (List.getElem?_eq_some_iff.1 hk).1; simp [xs] at this; omega
          obtain ⟨x', a1, a2, a3⟩ := hx k hkn
          rw [a1] at hk; cases hk
          rw [cell_of_row w l.blk _ c ty fr hb, h1, ← a2]
          congr 1; omega
      · cases e
    · cases e
  · cases e

theorem loadA_ok {P : Program} {ρ : Ren} {h h' : Hp} {w : World} {t : TypeId} {v r : AV} (e : loadA P t v h = some (r, h')) :
    Qt h h' ∧ r ≠ .top ∧ ((∀ p ∈ h'.ob, p) → HeapRep P ρ h.heap w → ∀ x, den ρ v = some x → ∃ y, (Instr.loadAt t x).run P w = .ok y w ∧ den ρ r = some y) := by
  unfold loadA at e
  split at e
  · rename_i b i j n ha hn
    split at e
    · rename_i l h1 he
      cases e
      obtain ⟨q, len, one, o⟩ := loadN_ok (P := P) (ρ := ρ) (w := w) he
      refine ⟨q, by simp, fun ho hr x hx => ?_⟩
      obtain ⟨L, hL, hnil, rfl⟩ := den_ptr hx
      obtain ⟨xs, hxs, hc⟩ := o ho hr L hL
      refine ⟨.agg xs.toArray, ?_, by simp [den, hxs]⟩
      have hlen : xs.length = n := by rw [← denL_length _ _ hxs, len]
      have hrun := run_loadCells_list (P := P) w ⟨L.blk, L.base + i * L.wid + j, none⟩ xs (fun k y hk => by
        have := hc k y hk
        unfold Addr.add
        split
        · rename_i hk0; subst hk0; simpa using this
        · exact this)
      rw [hlen] at hrun
      simp only [Instr.loadAt, Instr.sureAddr, loadVar, pure_bind, Sem.run_bind, run_isAgg ha, Result.andThen_ok, if_true, run_sizeOf hn, hrun, Sem.run_pure]
    · cases e
  · rename_i b i j n ha hn
    split at e
    · rename_i x1 h1 he
      cases e
      obtain ⟨q, len, one, o⟩ := loadN_ok (P := P) (ρ := ρ) (w := w) he
      refine ⟨q, oneCell_known (one _ (List.mem_singleton.2 rfl)), fun ho hr x hx => ?_⟩
      obtain ⟨L, hL, hnil, rfl⟩ := den_ptr hx
      obtain ⟨xs, hxs, hc⟩ := o ho hr L hL
      have hlen : xs.length = 1 := by rw [← denL_length _ _ hxs, len]
      obtain ⟨y, rfl⟩ : ∃ y, xs = [y] := by
        match xs, hlen with
        | [y], _ => exact ⟨y, rfl⟩
      have hc0 := hc 0 y rfl
      obtain ⟨y', hy', hd⟩ := denL_get _ _ hxs 0 r rfl
      simp at hy'; subst hy'
      refine ⟨y, ?_, hd⟩
      simp only [Nat.add_zero] at hc0
      simp [Instr.loadAt, Instr.sureAddr, loadVar, run_isAgg ha, hc0]
    · cases e
  · cases e

end Go.Ev

/-
  Stores, new variables, aggregates, addresses: the soundness of the evaluator, third part.
-/
set_option linter.unusedSimpArgs false
set_option linter.unusedVariables false
namespace Go.Ev

/-! ### one-cell values -/
theorem oneV_cells {x : Value} (h : oneV x = true) : x.cells = #[x] := by
  cases x <;> simp [oneV] at h <;> rfl

theorem oneCell_den {ρ : Ren} {v : AV} {x : Value} (h : v.oneCell = true) (e : den ρ v = some x) : oneV x = true := by
  cases v <;> simp only [den, AV.oneCell] at h e <;> first
    | (cases e; rfl)
    | (cases h; done)
    | skip
  case ptr b i j => obtain ⟨l, _, _, rfl⟩ := den_ptr (ρ := ρ) (b := b) (i := i) (j := j) (by simpa only [den] using e); rfl
  case stamp n =>
    cases hb : ρ n with
    | none => simp [hb] at e
    | some l => simp only [hb] at e; cases e; rfl
  case xs wd b off len c =>
    cases hb : ρ b with
    | none => simp [hb] at e
    | some l =>
      simp only [hb] at e
      cases hn : l.isnil with
      | true => simp [hn] at e
      | false =>
        simp only [hn, Loc.slice] at e
        repeat' split at e
        all_goals first | (cases e; rfl) | cases e
  case ss wd b off len c =>
    cases hb : ρ b with
    | none => simp [hb] at e
    | some l =>
      simp only [hb, Loc.slice] at e
      repeat' split at e
      all_goals first | (cases e; rfl) | cases e
  case map b =>
    cases hb : ρ b with
    | none => simp [hb] at e
    | some l => simp only [hb] at e; cases e; rfl
  case func f l m =>
    cases hl : denL ρ l with
    | none => simp [hl] at e
    | some l' => cases hm : denL ρ m with
      | none => simp [hl, hm] at e
      | some m' => simp only [hl, hm] at e; cases e; rfl
  case iface t v =>
    cases hl : den ρ v with
    | none => simp [hl] at e
    | some l' => simp only [hl] at e; cases e; rfl
  case raw v => cases e; exact h

theorem cells_den {ρ : Ren} {v : AV} {x : Value} (h : v.partOk = true) (e : den ρ v = some x) : denL ρ v.cells = some x.cells.toList ∧ ∀ y ∈ x.cells.toList, oneV y = true := by
  by_cases ha : ∃ l, v = .agg l
  · obtain ⟨l, rfl⟩ := ha
    simp only [den] at e
    cases hl : denL ρ l with
    | none => simp [hl] at e
    | some l' =>
      simp only [hl] at e; cases e
      refine ⟨by simpa [AV.cells, Value.cells] using hl, fun y hy => ?_⟩
      have hy : y ∈ l' := by simpa [Value.cells] using hy
      obtain ⟨k, hk⟩ := List.mem_iff_getElem?.1 hy
      have hlen := denL_length _ _ hl
      have hlt := (List.getElem?_eq_some_iff.1 hk).1
      obtain ⟨y', hy', hd⟩ := denL_get _ _ hl k l[k] (List.getElem?_eq_getElem (by omega))
      rw [hk] at hy'; cases hy'
      exact oneCell_den (allOne_mem h _ (List.getElem_mem _)) hd
  · have hv : v.oneCell = true := by
      cases v <;> first | exact h | exact absurd ⟨_, rfl⟩ ha
    have hc : v.cells = [v] := by
      cases v <;> first | rfl | exact absurd ⟨_, rfl⟩ ha
    have h1 := oneCell_den hv e
    rw [hc, oneV_cells h1]
    exact ⟨by simp [denL, e], by simpa using h1⟩

theorem allOne_part {v : AV} (h : allOne v.cells = true) : v.partOk = true := by
  cases v <;> first
    | exact h
    | (simp only [AV.cells, allOne] at h; split at h <;> first | assumption | cases h)

theorem cellOf_den (ρ : Ren) (v : Value) : den ρ (cellOf v) = some v := by
  unfold cellOf
  split <;> simp [den]

theorem ofVal_den (ρ : Ren) (v : Value) : den ρ (ofVal v) = some v := by
  unfold ofVal
  split
  · rename_i cs
    have : denL ρ (cs.toList.map cellOf) = some cs.toList := denL_of _ _ (by simp) (fun k v hk => by
      rw [List.getElem?_map] at hk
      cases hc : cs.toList[k]? with
      | none => simp [hc] at hk
      | some y => simp [hc] at hk; subst hk; exact ⟨y, rfl, cellOf_den ρ y⟩)
    simp [den, this]
  · exact cellOf_den ρ _

theorem ofVal_known (v : Value) : ofVal v ≠ .top := by
  intro e
  have := ofVal_den (fun _ => none) v
  rw [e] at this; simp [den] at this

/-! ### writing -/
theorem oneV_eq (v : Value) : oneV v = v.oneCell' := by cases v <;> rfl

theorem run_storeCells {P : Program} (blk off : Nat) (t : TypeId) (fr : Nat × Nat) (hf : fr.2 ≤ fr.1) : ∀ (vs : List Value) (i : Nat) (w : World) (c : Array Value), w.heap[blk]? = some (.cells c t fr) →
    (∀ v ∈ vs, oneV v = true) → off + i + vs.length ≤ c.size →
    ∃ w' c', (storeCells ⟨blk, off, none⟩ vs i).run P w = .ok () w' ∧ w'.heap[blk]? = some (.cells c' t fr) ∧ c'.size = c.size ∧
      (∀ k, c'[k]? = if off + i ≤ k ∧ k < off + i + vs.length then vs[k - (off + i)]? else c[k]?) ∧ (∀ b, b ≠ blk → w'.heap[b]? = w.heap[b]?) ∧ w'.heap.size = w.heap.size ∧ w'.tape = w.tape ∧ w'.os = w.os ∧ w'.output = w.output
  | [], i, w, c, hc, _, _ => ⟨w, c, by simp [storeCells], hc, rfl, fun k => by simp; omega, fun _ _ => rfl, rfl, rfl, rfl, rfl⟩
  | v :: r, i, w, c, hc, hv, hlen => by
    simp only [List.length_cons] at hlen
    have hadd : (⟨blk, off, none⟩ : Addr).add i = ⟨blk, off + i, none⟩ := by unfold Addr.add; split <;> simp_all
    have hcell : w.cell? ⟨blk, off + i, none⟩ = some c[off + i] := by
      rw [cell_of_row w blk _ c t fr hc]; exact Array.getElem?_eq_getElem (by omega)
    have hfz : w.frozen? ⟨blk, off + i, none⟩ = false := by
      obtain ⟨lo, hi⟩ := fr
      simp only [World.frozen?, hc]
      simp only at hf
      by_cases h : lo ≤ off + i <;> simp [h] <;> omega
    have hrun : (store ((⟨blk, off, none⟩ : Addr).add i) v).run P w = .ok () (w.setCell ⟨blk, off + i, none⟩ v) := by
      rw [hadd, run_store P w _ v .plain (by rw [← oneV_eq]; exact hv v (List.mem_cons_self ..))]
      simp [hcell, hfz]
    have hw1 : (w.setCell ⟨blk, off + i, none⟩ v).heap[blk]? = some (.cells (c.setIfInBounds (off + i) v) t fr) := by
      simp [World.setCell, Array.getElem?_modify, hc]
    obtain ⟨w', c', h1, h2, h3, h4, h5, h6, h7, h8, h9⟩ := run_storeCells (P := P) blk off t fr hf r (i + 1) (w.setCell ⟨blk, off + i, none⟩ v) _ hw1 (fun x hx => hv x (List.mem_cons_of_mem _ hx)) (by simp; omega)
    refine ⟨w', c', ?_, h2, by rw [h3]; simp, fun k => ?_, fun b hb => ?_, ?_, h7.trans rfl, h8.trans rfl, h9.trans rfl⟩
    · simp only [storeCells, Sem.run_bind, hrun, Result.andThen_ok, h1]
    · rw [h4 k]
      by_cases hk : off + (i + 1) ≤ k ∧ k < off + (i + 1) + r.length
      · rw [if_pos hk, if_pos (by simp only [List.length_cons]; omega)]
        rw [show k - (off + i) = (k - (off + (i + 1))) + 1 by omega, List.getElem?_cons_succ]
      · rw [if_neg hk]
        by_cases hk2 : k = off + i
        · subst hk2
          rw [if_pos (by simp only [List.length_cons]; omega)]
          simp [Array.getElem?_setIfInBounds]; omega
        · rw [if_neg (by simp only [List.length_cons]; omega), Array.getElem?_setIfInBounds_ne (Ne.symm hk2)]
    · rw [h5 b hb]
      exact heap_setCell_other w _ b v hb
    · rw [h6]; simp

theorem splice_length {α : Type} : ∀ (r l : List α) (k : Nat), (splice l k r).length = l.length
  | [], l, k => by simp [splice]
  | x :: r, l, k => by simp [splice, splice_length r, setNth_eq]

theorem splice_get {α : Type} : ∀ (r l : List α) (k j : Nat), (splice l k r)[j]? = if k ≤ j ∧ j < k + r.length ∧ j < l.length then r[j - k]? else l[j]?
  | [], l, k, j => by simp [splice]; omega
  | x :: r, l, k, j => by
    simp only [splice]
    rw [splice_get r, setNth_eq, List.length_set]
    by_cases h : k + 1 ≤ j ∧ j < k + 1 + r.length ∧ j < l.length
    · rw [if_pos h, if_pos (by simp only [List.length_cons]; omega), show j - k = (j - (k + 1)) + 1 by omega, List.getElem?_cons_succ]
    · rw [if_neg h]
      by_cases h2 : k = j
      · subst h2
        by_cases h3 : k < l.length
        · rw [if_pos (by simp only [List.length_cons]; omega)]; simp [h3]
        · rw [if_neg (by omega)]; rw [List.getElem?_eq_none (by simp; omega), List.getElem?_eq_none (by omega)]
      · rw [if_neg (by simp only [List.length_cons]; omega), List.getElem?_set_ne h2]

theorem fits_kind {k : CK} {v : AV} (h : fits k v = true) : kindOk k v := by
  unfold fits at h
  split at h
  · have := of_decide_eq_true h; subst this; exact ⟨_, .inl rfl⟩
  · have := of_decide_eq_true h; subst this; exact ⟨_, .inr rfl⟩
  · exact ⟨_, .inl rfl⟩
  · exact ⟨_, .inr rfl⟩
  · exact h
  · cases h

theorem fitsAll_kind {sh : List CK} : ∀ {l : List AV} {j : Nat}, fitsAll sh j l = true → ∀ (k : Nat) c v, sh[j + k]? = some c → l[k]? = some v → kindOk c v
  | [], j, _, k, c, v, _, hv => by simp at hv
  | x :: r, j, h, k, c, v, hc, hv => by
    simp only [fitsAll] at h
    split at h
    · rename_i k0 hk0
      rw [nth_eq] at hk0
      split at h
      · rename_i hf
        cases k with
        | zero => simp at hv hc; subst hv; rw [hk0] at hc; cases hc; exact fits_kind hf
        | succ k => exact fitsAll_kind h k c v (by rw [← hc]; congr 1; omega) (by simpa using hv)
      · cases h
    · cases h

theorem fitsAll_len {sh : List CK} : ∀ {l : List AV} {j : Nat}, fitsAll sh j l = true → l = [] ∨ j + l.length ≤ sh.length
  | [], j, _ => .inl rfl
  | x :: r, j, h => by
    right
    simp only [fitsAll] at h
    split at h
    · rename_i k0 hk0
      rw [nth_eq] at hk0
      have := (List.getElem?_eq_some_iff.1 hk0).1
      split at h
      · rcases fitsAll_len h with rfl | h'
        · simp; omega
        · simp; omega
      · cases h
    · cases h

theorem put_mono (h : Hp) (b : Nat) (o : AO) : Mono h (h.put b o) := ⟨fun _ x => x, Nat.le_refl _, rfl, fun n hn => mem_add.2 (.inr hn)⟩

/-- The cells of a part of an object are written. -/
theorem storeN_ok {P : Program} {ρ : Ren} {h h' : Hp} {w : World} {b i j : Nat} {vs : List AV} (e : storeN h b i j vs = some h') :
    Mono h h' ∧ (∀ v ∈ vs, v.oneCell = true) ∧ ((∀ p ∈ h'.ob, p) → HeapRep P ρ h.heap w → ∀ l, ρ b = some l → ∀ xs, denL ρ vs = some xs →
      ∃ w', (storeCells ⟨l.blk, l.base + i * l.wid + j, none⟩ xs).run P w = .ok () w' ∧ Step P ρ h w ρ h' w') := by
  unfold storeN at e
  split at e
  · cases e
  rename_i ha
  have hone := allOne_mem ha
  have honeV : ∀ {xs : List Value}, denL ρ vs = some xs → ∀ x ∈ xs, oneV x = true := by
    intro xs hxs x hx
    obtain ⟨k, hk⟩ := List.mem_iff_getElem?.1 hx
    have hlen := denL_length _ _ hxs
    have hlt := (List.getElem?_eq_some_iff.1 hk).1
    obtain ⟨y, hy, hd⟩ := denL_get _ _ hxs k vs[k] (List.getElem?_eq_getElem (by omega))
    rw [hk] at hy; cases hy
    exact oneCell_den (hone _ (List.getElem_mem _)) hd
  split at e
  · rename_i wd cs hg
    split at e
    · rename_i hle
      cases e
      refine ⟨put_mono _ _ _, hone, fun _ hr l hl xs hxs => ?_⟩
      obtain ⟨h0, h1, h2, c, t, fr, hb, hf, hc, hc2, hv⟩ := hr.obj hg hl
      have hle' : i * wd + j + vs.length ≤ cs.length := by simpa using hle
      have hlen := denL_length _ _ hxs
      obtain ⟨w', c', r1, r2, r3, r4, r5, r6, r7, r8, r9⟩ := run_storeCells (P := P) l.blk (l.base + i * l.wid + j) t fr hf xs 0 w c hb (honeV hxs) (by rw [h2]; omega)
      refine ⟨w', r1, put_step hr hg rfl rfl hl h1 r5 (by omega) r7 r8 r9 ?_⟩
      · refine ⟨h0, h1, h2, c', t, fr, r2, hf, by rw [splice_length]; exact hc, by rw [r3]; exact hc2, fun k v hk => ?_⟩
        rw [splice_get] at hk
        rw [r4, h2]
        by_cases hin : i * wd + j ≤ k ∧ k < i * wd + j + vs.length ∧ k < cs.length
        · rw [if_pos hin] at hk
          obtain ⟨x, hx, hd⟩ := denL_get _ _ hxs _ v hk
          refine ⟨x, ?_, .inr hd⟩
          rw [if_pos (by omega)]
          rw [← hx]; congr 1; omega
        · rw [if_neg hin] at hk
          have : k < cs.length := (List.getElem?_eq_some_iff.1 hk).1
          rw [if_neg (by omega)]
          exact hv k v hk
    · cases e
  · rename_i wd sh ro len f hg
    split at e
    · rename_i hro hfit hle
      split at e
      · rename_i h1 hn
        cases e
        obtain ⟨q1, o1⟩ := need_qt hn
        refine ⟨q1.mono.trans (put_mono _ _ _), hone, fun ho hr l hl xs hxs => ?_⟩
        have hi : i < len := by have := o1 ho; simpa [Nat.blt_eq] using this
        obtain ⟨g1, g2, g3, g4, g5⟩ := hr.obj hg hl
        have hcap : l.cap ≠ 0 := by omega
        obtain ⟨c, t, fr, hb, hf, hc2, hv⟩ := g5 hcap
        have hlen := denL_length _ _ hxs
        have hle' : j + vs.length ≤ wd := by simpa using hle
        have hmul : i * wd + wd ≤ l.cap * wd := by
          have : (i + 1) * wd ≤ l.cap * wd := Nat.mul_le_mul_right wd (by omega)
          rwa [Nat.succ_mul] at this
        obtain ⟨w', c', r1, r2, r3, r4, r5, r6, r7, r8, r9⟩ := run_storeCells (P := P) l.blk (l.base + i * l.wid + j) t fr (hf rfl) xs 0 w c hb (honeV hxs) (by rw [g1]; omega)
        have hput : ObjRep P ρ w' l (.arr wd sh false len (upd f i j vs)) := by
          refine ⟨g1, g2, g3, g4, fun _ => ⟨c', t, fr, r2, hf, by rw [r3]; exact hc2, fun i' hi' k ck hk => ?_⟩⟩
          have hkw : k < wd := by have := (List.getElem?_eq_some_iff.1 hk).1; omega
          obtain ⟨a1, x, a2, a3⟩ := hv i' hi' k ck hk
          rw [r4, g1]
          simp only [upd]
          by_cases hii : i' = i
          · subst hii
            rw [if_pos rfl]
            by_cases hjk : j ≤ k
            · rw [if_pos hjk, nth_eq]
              by_cases hin : k - j < vs.length
              · rw [List.getElem?_eq_getElem hin]
                obtain ⟨y, hy, hd⟩ := denL_get _ _ hxs (k - j) _ (List.getElem?_eq_getElem hin)
                refine ⟨fitsAll_kind hfit (k - j) ck _ (by rw [← hk]; congr 1; omega) (List.getElem?_eq_getElem hin), y, ?_, hd⟩
                rw [if_pos (by omega), ← hy]; congr 1; omega
              · rw [List.getElem?_eq_none (by omega)]
                exact ⟨a1, x, by rw [if_neg (by omega)]; exact a2, a3⟩
            · rw [if_neg hjk]
              exact ⟨a1, x, by rw [if_neg (by omega)]; exact a2, a3⟩
          · rw [if_neg hii]
            refine ⟨a1, x, ?_, a3⟩
            rw [if_neg ?_]
            · exact a2
            · intro hcon
              rcases Nat.lt_or_gt_of_ne hii with hlt | hgt
              · have : (i' + 1) * wd ≤ i * wd := Nat.mul_le_mul_right wd (by omega)
                rw [Nat.succ_mul] at this
                omega
              · have : (i + 1) * wd ≤ i' * wd := Nat.mul_le_mul_right wd (by omega)
                rw [Nat.succ_mul] at this
                omega
        have hr1 : HeapRep P ρ h1.heap w := by rw [q1.heap]; exact hr
        exact ⟨w', r1, (Step.refl hr q1.heap).trans (put_step hr1 (by rw [q1.heap]; exact hg) rfl rfl hl hcap r5 (by omega) r7 r8 r9 hput) q1.mono (put_mono _ _ _)⟩
      · cases e
    · cases e
  · cases e

theorem storeA_ok {P : Program} {ρ : Ren} {h h' : Hp} {w : World} {t : TypeId} {a v : AV} (e : storeA P t a v h = some h') :
    Mono h h' ∧ ((∀ p ∈ h'.ob, p) → HeapRep P ρ h.heap w → ∀ x y, relS ρ a x → relS ρ v y → ∃ w', (Instr.storeAt t x y).run P w = .ok () w' ∧ Step P ρ h w ρ h' w') := by
  unfold storeA at e
  split at e
  · rename_i b i j n hn
    split at e
    · rename_i hbeq
      obtain ⟨m, one, o⟩ := storeN_ok (P := P) (ρ := ρ) (w := w) e
      refine ⟨m, fun ho hr x y hx hy => ?_⟩
      obtain ⟨L, hL, hnil, rfl⟩ := den_ptr (relS_den hx (by simp))
      have hp : v.partOk = true := by
        have : allOne v.cells = true := by
          unfold storeN at e
          split at e
          · cases e
          · assumption
        exact allOne_part this
      have hvt : v ≠ .top := by intro e; subst e; simp [AV.partOk, AV.oneCell] at hp
      obtain ⟨hc, _⟩ := cells_den hp (relS_den hy hvt)
      obtain ⟨w', r1, r2⟩ := o ho hr L hL _ hc
      refine ⟨w', ?_, r2⟩
      have hsz : y.cells.size = n := by
        have := denL_length _ _ hc
        have h2 := Nat.eq_of_beq_eq_true hbeq
        simp at this; omega
      simp only [Instr.storeAt, Instr.sureAddr, pure_bind, storeVar, Sem.run_bind, run_sizeOf hn, Result.andThen_ok, hsz]
      simp [r1]
    · cases e
  · cases e

/-! ### new variables -/
theorem newA_ok {P : Program} {ρ : Ren} {h h' : Hp} {w : World} {v r : AV} (e : newA v h = some (r, h')) :
    Mono h h' ∧ r ≠ .top ∧ (Fresh ρ h.nxt h.hi → HeapRep P ρ h.heap w → ∀ t x, relS ρ v x → ∃ ρ', (newVar t x).run P w = .ok ⟨w.heap.size, 0, none⟩ (w.alloc (.cells x.cells t)) ∧ den ρ' r = some (.pointer (some ⟨w.heap.size, 0, none⟩)) ∧
      Step P ρ h w ρ' h' (w.alloc (.cells x.cells t))) := by
  unfold newA at e
  split at e
  · rename_i ha
    split at e
    · rename_i n h1 hn
      cases e
      refine ⟨new_mono hn, by simp, fun hf hr t x hx => ?_⟩
      have hp := allOne_part ha
      have hvt : v ≠ .top := by intro e; subst e; simp [AV.partOk, AV.oneCell] at hp
      obtain ⟨hc, _⟩ := cells_den hp (relS_den hx hvt)
      have hlen := denL_length _ _ hc
      let l : Loc := ⟨w.heap.size, 0, v.cells.length, 1, false⟩
      have hρn : ρ n = none := by
        obtain ⟨rfl, hlt, _⟩ := new_spec hn
        exact hf _ (Nat.le_refl _) hlt
      have ho : ObjRep P (ρ.set n l) (w.alloc (.cells x.cells t)) l (.cells v.cells.length v.cells) := by
        refine ⟨rfl, by simp [l], rfl, x.cells, t, (0, 0), heap_alloc_new w _, Nat.le_refl _, by simp [l], by simp [l]; simp at hlen; omega, fun j v' hj => ?_⟩
        obtain ⟨y, hy, hd⟩ := denL_get _ _ hc j v' hj
        exact ⟨y, by simpa [l] using hy, .inr (den_mono (Ren.le_set hρn) _ _ hd)⟩
      obtain ⟨hs, _⟩ := new_step hn hr hf (.cells x.cells t) l rfl ho
      refine ⟨ρ.set n l, ?_, ?_, hs⟩
      · simp [newVar, newRow]
      · simp [den, Ren.set_same, l]
    · cases e
  · cases e

end Go.Ev

/-
  Aggregates, addresses, operators: the soundness of the evaluator, fourth part.
-/
set_option linter.unusedSimpArgs false
set_option linter.unusedVariables false
namespace Go.Ev

/-! ### building -/
theorem foldl_fill (off : Nat) : ∀ (vs : List Value) (k : Nat) (xs : Array Value),
    ((vs.zipIdx k).foldl (fun cs (p : Value × Nat) => cs.setIfInBounds (off + p.2) p.1) xs).size = xs.size ∧
    ∀ m : Nat, ((vs.zipIdx k).foldl (fun cs (p : Value × Nat) => cs.setIfInBounds (off + p.2) p.1) xs)[m]? = if off + k ≤ m ∧ m < off + k + vs.length ∧ m < xs.size then vs[m - (off + k)]? else xs[m]?
  | [], k, xs => by simp; omega
  | v :: r, k, xs => by
    obtain ⟨h1, h2⟩ := foldl_fill off r (k + 1) (xs.setIfInBounds (off + k) v)
    simp only [List.zipIdx_cons, List.foldl_cons]
    refine ⟨by rw [h1]; simp, fun m => ?_⟩
    rw [h2 m]
    simp only [Array.size_setIfInBounds, List.length_cons]
    by_cases hm : off + (k + 1) ≤ m ∧ m < off + (k + 1) + r.length ∧ m < xs.size
    · rw [if_pos hm, if_pos (by omega), show m - (off + k) = (m - (off + (k + 1))) + 1 by omega, List.getElem?_cons_succ]
    · rw [if_neg hm]
      by_cases h3 : m = off + k
      · subst h3
        by_cases h4 : off + k < xs.size
        · rw [if_pos (by omega)]; simp [h4]
        · rw [if_neg (by omega)]; rw [Array.getElem?_eq_none (by simp; omega), Array.getElem?_eq_none (by omega)]
      · rw [if_neg (by omega), Array.getElem?_setIfInBounds_ne (Ne.symm h3)]

def PartsRel (ρ : Ren) (ps : List (Nat × AV)) (vs : List (Nat × Value)) : Prop := ps.length = vs.length ∧ ∀ (k : Nat) i v, ps[k]? = some (i, v) → v.partOk = true ∧ ∃ x, vs[k]? = some (i, x) ∧ den ρ v = some x

theorem fill_ok {ρ : Ren} {place : Nat → Option (Nat × Nat)} : ∀ (ps : List (Nat × AV)) (vs : List (Nat × Value)) (cells : List AV) (xs : Array Value) (l : List AV),
    fillA place cells ps = some l → PartsRel ρ ps vs → RelL ρ cells xs.toList → ∃ ys, Instr.fill place xs vs = some ys ∧ RelL ρ l ys.toList
  | [], vs, cells, xs, l, e, hp, hr => by
    simp only [fillA] at e; cases e
    have : vs = [] := by have := hp.1; simpa using this.symm
    subst this
    exact ⟨xs, rfl, hr⟩
  | (i, v) :: r, vs, cells, xs, l, e, hp, hr => by
    obtain ⟨hpk, x, hx, hd⟩ := hp.2 0 i v (by simp)
    match vs, hx with
    | (i', x') :: vs', hx =>
      simp at hx; obtain ⟨rfl, rfl⟩ := hx
      simp only [fillA] at e
      split at e
      · cases e
      rename_i off size hpl
      split at e
      · rename_i hsz hle
        obtain ⟨hc, _⟩ := cells_den hpk hd
        have hlen := denL_length _ _ hc
        have hsz' := Nat.eq_of_beq_eq_true hsz
        have hle' : off + v.cells.length ≤ cells.length := by simpa using hle
        have hcl : cells.length = xs.size := by simpa using hr.1
        simp only [Array.length_toList] at hlen
        have hrest : PartsRel ρ r vs' := ⟨by simpa using hp.1, fun k i v hk => by
          obtain ⟨a, x, b, c⟩ := hp.2 (k + 1) i v (by simpa using hk)
          exact ⟨a, x, by simpa using b, c⟩⟩
        obtain ⟨hf1, hf2⟩ := foldl_fill off x'.cells.toList 0 xs
        have hfold : x'.cells.zipIdx.foldl (fun cs (p : Value × Nat) => cs.setIfInBounds (off + p.2) p.1) xs = (x'.cells.toList.zipIdx 0).foldl (fun cs (p : Value × Nat) => cs.setIfInBounds (off + p.2) p.1) xs := by
          rw [← Array.foldl_toList]; simp
        have hrel : RelL ρ (splice cells off v.cells) (x'.cells.zipIdx.foldl (fun cs (p : Value × Nat) => cs.setIfInBounds (off + p.2) p.1) xs).toList := by
          rw [hfold]
          refine ⟨by rw [splice_length]; simp [hf1, hcl], fun k u hk => ?_⟩
          rw [splice_get] at hk
          rw [Array.getElem?_toList, hf2 k]
          by_cases hin : off ≤ k ∧ k < off + v.cells.length ∧ k < cells.length
          · rw [if_pos hin] at hk
            obtain ⟨y, hy, hdy⟩ := denL_get _ _ hc _ u hk
            rw [if_pos (by simp; omega)]
            exact ⟨y, by simpa using hy, .inr hdy⟩
          · rw [if_neg hin] at hk
            rw [if_neg (by simp; omega)]
            obtain ⟨y, hy, hry⟩ := hr.2 k u hk
            exact ⟨y, by simpa using hy, hry⟩
        obtain ⟨ys, hys, hrys⟩ := fill_ok r vs' _ _ l e hrest hrel
        refine ⟨ys, ?_, hrys⟩
        simp only [Instr.fill, hpl]
        rw [if_neg (by simp; omega)]
        exact hys
      · cases e

theorem fieldsAt_ok {P : Program} {w : World} : ∀ (fs : List Field) (ps : List (Nat × Nat)), fieldsAt P fs = some ps →
    (fs.mapM (fun f => (do pure (f.offset, ← sizeOf f.type) : Sem (Nat × Nat)))).run P w = .ok ps w
  | [], ps, e => by simp only [fieldsAt] at e; cases e; simp
  | f :: r, ps, e => by
    simp only [fieldsAt] at e
    split at e
    · rename_i n l hn hl
      cases e
      simp only [List.mapM_cons, Sem.run_bind, run_sizeOf hn, Result.andThen_ok, Sem.run_pure, fieldsAt_ok r l hl]
    · cases e

theorem allKnown_mem : ∀ {l : List AV}, allKnown l = true → ∀ v ∈ l, v ≠ .top
  | [], _, v, hv => by simp at hv
  | x :: r, h, v, hv => by
    simp only [allKnown] at h
    split at h
    · rename_i hx
      rcases List.mem_cons.1 hv with rfl | hv
      · intro e; subst e; simp [AV.known] at hx
      · exact allKnown_mem h v hv
    · cases h

theorem RelL.den {ρ : Ren} {l : List AV} {xs : List Value} (h : RelL ρ l xs) (hk : ∀ v ∈ l, v ≠ .top) : denL ρ l = some xs :=
  denL_of _ _ h.1 (fun k v hv => let ⟨x, hx, r⟩ := h.2 k v hv; ⟨x, hx, relS_den r (hk v (List.mem_of_getElem? hv))⟩)

theorem denL.rel {ρ : Ren} {l : List AV} {xs : List Value} (h : denL ρ l = some xs) : RelL ρ l xs :=
  ⟨denL_length _ _ h, fun k v hv => let ⟨x, hx, r⟩ := denL_get _ _ h k v hv; ⟨x, hx, .inr r⟩⟩

theorem zero_cells {ρ : Ren} (v : Value) : RelL ρ (ofVal v).cells v.cells.toList := by
  by_cases h : ∃ cs, v = .agg cs
  · obtain ⟨cs, rfl⟩ := h
    have := ofVal_den ρ (.agg cs)
    simp only [ofVal, den] at this
    cases hl : denL ρ (cs.toList.map cellOf) with
    | none => simp [hl] at this
    | some l =>
      simp [hl] at this
      subst this
      simpa [ofVal, AV.cells, Value.cells] using denL.rel hl
  · have hc : v.cells = #[v] := by cases v <;> first | rfl | exact absurd ⟨_, rfl⟩ h
    have ho : ofVal v = cellOf v := by cases v <;> first | rfl | exact absurd ⟨_, rfl⟩ h
    have hcc : (cellOf v).cells = [cellOf v] := by unfold cellOf; split <;> rfl
    rw [ho, hcc, hc]
    exact ⟨by simp, fun k u hk => by
      cases k with
      | zero => simp at hk; subst hk; exact ⟨v, by simp, .inr (cellOf_den ρ v)⟩
      | succ k => simp at hk⟩

theorem build_ok {P : Program} {ρ : Ren} {w : World} {t : TypeId} {ps : List (Nat × AV)} {v : AV} (e : buildA P t ps = some v) {vs : Array (Nat × Value)} (hp : PartsRel ρ ps vs.toList) :
    ∃ x, (Instr.build t vs).run P w = .ok x w ∧ den ρ v = some x := by
  unfold buildA at e
  split at e
  · rename_i z fields hz hu
    obtain ⟨zv, hzr, rfl⟩ := run_zero (w := w) hz
    split at e
    · rename_i places hpl
      split at e
      · rename_i l hl
        split at e
        · rename_i hk
          cases e
          obtain ⟨ys, hys, hr⟩ := fill_ok ps vs.toList _ zv.cells l hl hp (zero_cells zv)
          refine ⟨.agg ys, ?_, ?_⟩
          · have hm : (fields.mapM (fun f => (do pure (f.offset, ← sizeOf f.type) : Sem (Nat × Nat)))).run P w = .ok places.toArray w := by
              rw [Array.mapM_eq_mapM_toList, Sem.run_map, fieldsAt_ok _ _ hpl]
              rfl
            have hplace : (fun i => places.toArray[i]?) = nth places := by funext i; simp [nth_eq]
            simp only [Instr.build, Sem.run_bind, hzr, Result.andThen_ok, run_underlying' hu, hm, hplace, hys, Sem.run_pure]
          · have := hr.den (allKnown_mem hk)
            simp [den, this]
        · cases e
      · cases e
    · cases e
  · rename_i z n el hz hu
    obtain ⟨zv, hzr, rfl⟩ := run_zero (w := w) hz
    split at e
    · rename_i sz hsz
      split at e
      · rename_i l hl
        split at e
        · rename_i hk
          cases e
          obtain ⟨ys, hys, hr⟩ := fill_ok ps vs.toList _ zv.cells l hl hp (zero_cells zv)
          refine ⟨.agg ys, ?_, ?_⟩
          · simp only [Instr.build, Sem.run_bind, hzr, Result.andThen_ok, run_underlying' hu, run_sizeOf hsz, hys, Sem.run_pure]
          · have := hr.den (allKnown_mem hk)
            simp [den, this]
        · cases e
      · cases e
    · cases e
  · cases e

theorem repeatL_get {α : Type} (l : List α) (hl : l ≠ []) : ∀ (n k : Nat), (repeatL l n)[k]? = if k < n * l.length then l[k % l.length]? else none
  | 0, k => by simp [repeatL]
  | n + 1, k => by
    have hpos : 0 < l.length := List.length_pos_iff.2 hl
    simp only [repeatL]
    rw [List.getElem?_append]
    split
    · rename_i h
      rw [if_pos (by rw [Nat.succ_mul]; omega), Nat.mod_eq_of_lt h]
    · rename_i h
      rw [repeatL_get l hl n]
      have : (k - l.length) % l.length = k % l.length := by
        conv => rhs; rw [show k = (k - l.length) + l.length by omega]
        simp
      rw [this, Nat.succ_mul]
      by_cases h2 : k - l.length < n * l.length
      · rw [if_pos h2, if_pos (by omega)]
      · rw [if_neg h2, if_neg (by omega)]

theorem repeatL_length {α : Type} (l : List α) : ∀ n, (repeatL l n).length = n * l.length
  | 0 => by simp [repeatL]
  | n + 1 => by simp [repeatL, repeatL_length l n, Nat.succ_mul]; omega

theorem buildSlice_ok {P : Program} {ρ : Ren} {h h' : Hp} {w : World} {t : TypeId} {len : Nat} {ps : List (Nat × AV)} {v : AV} (e : buildSliceA P t len ps h = some (v, h')) :
    Mono h h' ∧ v ≠ .top ∧ (Fresh ρ h.nxt h.hi → HeapRep P ρ h.heap w → ∀ vs : Array (Nat × Value), PartsRel ρ ps vs.toList → ∃ ρ' w' x, (Instr.buildSlice t len vs).run P w = .ok x w' ∧ den ρ' v = some x ∧ Step P ρ h w ρ' h' w') := by
  unfold buildSliceA at e
  split at e
  · rename_i el hu
    split at e
    · rename_i n z hn hz
      split at e
      · rename_i hzl hbig hone
        split at e
        · rename_i l hl
          split at e
          · rename_i ha
            split at e
            · rename_i b h1 hb
              cases e
              refine ⟨new_mono hb, by simp, fun hf hr vs hp => ?_⟩
              obtain ⟨zv, hzr, rfl⟩ := run_zero (w := w) hz
              have hzl' := Nat.eq_of_beq_eq_true hzl
              have hbig' : len * n ≤ 2 ^ 24 := by simpa using hbig
              have hone' : 1 ≤ len * n := by simpa using hone
              have hn0 : n ≠ 0 := by intro x; subst x; simp at hone'
              have hlen0 : len ≠ 0 := by intro x; subst x; simp at hone'
              have hzc := zero_cells (ρ := ρ) zv
              have hzs : zv.cells.size = n := by have := hzc.1; simp at this; omega
              have hne : (ofVal zv).cells ≠ [] := by intro x; rw [x] at hzl'; simp at hzl'; omega
              let init : Array Value := (Array.range (len * n)).map (fun i => zv.cells[i % zv.cells.size]!)
              have hinit : RelL ρ (repeatL (ofVal zv).cells len) init.toList := by
                refine ⟨by simp [init, repeatL_length, hzl'], fun k u hk => ?_⟩
                rw [repeatL_get _ hne, hzl'] at hk
                split at hk
                · rename_i hlt
                  obtain ⟨y, hy, hry⟩ := hzc.2 _ u hk
                  refine ⟨y, ?_, hry⟩
                  simp only [Array.getElem?_toList] at hy
                  simp [init, hlt, hzs, getElem!_def, hy]
                · cases hk
              obtain ⟨ys, hys, hrel⟩ := fill_ok ps vs.toList _ init l hl hp hinit
              have hd := hrel.den (fun v hv => oneCell_known (allOne_mem ha v hv))
              have hlen := denL_length _ _ hd
              let lc : Loc := ⟨w.heap.size, 0, n, len, false⟩
              have hρb : ρ b = none := by obtain ⟨rfl, hlt, _⟩ := new_spec hb; exact hf _ (Nat.le_refl _) hlt
              -- the length of the cells
              have hfl : ∀ (ps : List (Nat × AV)) (cells l : List AV), fillA (fun i => some (i * n, n)) cells ps = some l → l.length = cells.length := by
                intro ps
                induction ps with
                | nil => intro cells l h; simp only [fillA] at h; cases h; rfl
                | cons p r ih =>
                  intro cells l h
                  obtain ⟨i, v⟩ := p
                  simp only [fillA] at h
                  split at h
                  · rw [ih _ _ h, splice_length]
                  · cases h
              have hll : l.length = len * n := by rw [hfl _ _ _ hl, repeatL_length, hzl']
              have ho : ObjRep P (ρ.set b lc) (w.alloc (.cells ys el)) lc (.cells n l) := by
                refine ⟨rfl, hlen0, rfl, ys, el, (0, 0), heap_alloc_new w _, Nat.le_refl _, by simp [lc]; simp at hlen; omega, by simp [lc]; simp at hlen; omega, fun j v' hj => ?_⟩
                obtain ⟨y, hy, hdy⟩ := denL_get _ _ hd j v' hj
                exact ⟨y, by simpa [lc] using hy, .inr (den_mono (Ren.le_set hρb) _ _ hdy)⟩
              obtain ⟨hs, _⟩ := new_step hb hr hf (.cells ys el) lc rfl ho
              refine ⟨ρ.set b lc, _, .slice (some ⟨w.heap.size, 0, none⟩) len len, ?_, ?_, hs⟩
              · have hnz : ¬ (len * n = 0) := by
                  intro h0; rcases Nat.mul_eq_zero.1 h0 with h0 | h0 <;> omega
                simp only [Instr.buildSlice, Sem.run_bind, run_underlying' hu, Result.andThen_ok, run_sizeOf hn]
                rw [if_neg (by omega)]
                simp only [Sem.run_bind, Sem.run_ite, hnz, if_false, Sem.run_pure, Result.andThen_ok, hzr]
                have : Instr.fill (fun i => some (i * n, n)) ((Array.range (len * n)).map (fun i => zv.cells[i % zv.cells.size]!)) vs.toList = some ys := hys
                simp only [this]
                simp [newRow]
              · simp [den, Ren.set_same, Loc.slice, lc, capOr]
            · cases e
          · cases e
        · cases e
      · rename_i hzl hbig hone
        split at e
        · rename_i hl0
          split at e
          · rename_i b h1 hb
            cases e
            refine ⟨new_mono hb, by simp, fun hf hr vs hp => ?_⟩
            have hl0 := Nat.eq_of_beq_eq_true hl0; subst hl0
            have hzl := Nat.eq_of_beq_eq_true hzl
            have hvs : vs = #[] := by
              have := hp.1
              simp at this
              exact Array.eq_empty_of_size_eq_zero this.symm
            subst hvs
            let lc : Loc := ⟨w.heap.size, 0, n, 0, false⟩
            obtain ⟨hs, _⟩ := new_step hb hr hf (.cells #[] el) lc rfl ⟨rfl, by simp [hzl], Nat.le_refl _, fun _ => rfl, fun h => absurd rfl h⟩
            refine ⟨ρ.set b lc, _, .slice (some ⟨w.heap.size, 0, none⟩) 0 0, ?_, ?_, hs⟩
            · have hr0 : ∀ f : Nat → Value, Array.map f (Array.range 0) = #[] := fun f => Array.ext' (by simp)
              simp [Instr.buildSlice, run_underlying' hu, run_sizeOf hn, Instr.fill, newRow, hr0]
            · simp [den, Ren.set_same, Loc.slice, lc, capOr]
          · cases e
        · cases e
      · cases e
    · cases e
  · cases e

end Go.Ev

/-
  Parts, addresses, operators: the soundness of the evaluator, fifth part.
-/
set_option linter.unusedSimpArgs false
set_option linter.unusedVariables false
namespace Go.Ev

theorem addr_add (b o n : Nat) : (⟨b, o, none⟩ : Addr).add n = ⟨b, o + n, none⟩ := by unfold Addr.add; split <;> simp_all

theorem denL_take_drop {ρ : Ren} {l : List AV} {xs : List Value} (h : denL ρ l = some xs) (off n : Nat) : denL ρ ((l.drop off).take n) = some ((xs.drop off).take n) := by
  have hlen := denL_length _ _ h
  refine denL_of _ _ (by simp [hlen]) (fun k v hk => ?_)
  rw [List.getElem?_take] at hk ⊢
  split at hk
  · rename_i hkn
    rw [if_pos hkn, List.getElem?_drop]
    rw [List.getElem?_drop] at hk
    exact denL_get _ _ h _ v hk
  · cases hk

theorem part_ok {P : Program} {ρ : Ren} {w : World} {t : TypeId} {l : List AV} {off : Nat} {v : AV} {xs : List Value} (e : partA P t l off = some v) (hd : denL ρ l = some xs) :
    ∃ x, (part t xs.toArray off).run P w = .ok x w ∧ den ρ v = some x := by
  unfold partA at e
  split at e
  · rename_i n ha hn
    split at e
    · rename_i p hp
      cases e
      obtain ⟨hlen, rfl⟩ := takeN_eq _ _ _ hp
      rw [dropN_eq] at hlen ⊢
      refine ⟨.agg (xs.toArray.extract off (off + n)), ?_, ?_⟩
      · simp only [part, Sem.run_bind, run_isAgg ha, Result.andThen_ok, if_true, run_sizeOf hn, Sem.run_pure]
      · simp [den, denL_take_drop hd]
    · cases e
  · rename_i ha hn
    rw [nth_eq] at e
    obtain ⟨x, hx, hdx⟩ := denL_get _ _ hd _ v e
    refine ⟨x, ?_, hdx⟩
    simp [part, run_isAgg ha, hx]
  · cases e

theorem den_agg {ρ : Ren} {l : List AV} {x : Value} (h : den ρ (.agg l) = some x) : ∃ xs, denL ρ l = some xs ∧ x = .agg xs.toArray := by
  simp only [den] at h
  cases hl : denL ρ l with
  | none => simp [hl] at h
  | some l' => simp only [hl] at h; cases h; exact ⟨l', rfl, rfl⟩

theorem den_tup {ρ : Ren} {l : List AV} {x : Value} (h : den ρ (.tup l) = some x) : ∃ xs, denL ρ l = some xs ∧ x = .tuple xs.toArray := by
  simp only [den] at h
  cases hl : denL ρ l with
  | none => simp [hl] at h
  | some l' => simp only [hl] at h; cases h; exact ⟨l', rfl, rfl⟩

theorem relS_known {ρ : Ren} {v : AV} {x : Value} (h : relS ρ v x) (hk : v ≠ .top) : den ρ v = some x := relS_den h hk

theorem field_ok {P : Program} {ρ : Ren} {w : World} {t : TypeId} {v r : AV} {f : Nat} {x : Value} (e : fieldA P t v f = some r) (hx : relS ρ v x) : ∃ y, (Instr.field t x f).run P w = .ok y w ∧ den ρ r = some y := by
  unfold fieldA at e
  split at e
  · rename_i l fields hu
    split at e
    · rename_i fd hf
      rw [nth_eq, Array.getElem?_toList] at hf
      obtain ⟨xs, hxs, rfl⟩ := den_agg (relS_den hx (by simp))
      obtain ⟨y, hy, hd⟩ := part_ok (w := w) e hxs
      refine ⟨y, ?_, hd⟩
      simp [Instr.field, run_underlying' hu, hf, asAgg, hy]
    · cases e
  · cases e

theorem fieldAddr_ok {P : Program} {ρ : Ren} {w : World} {t : TypeId} {v r : AV} {f : Nat} {x : Value} (e : fieldAddrA P t v f = some r) (hx : relS ρ v x) : ∃ y, (Instr.fieldAt t x f).run P w = .ok y w ∧ den ρ r = some y := by
  unfold fieldAddrA at e
  split at e
  · rename_i b i j fields hu
    split at e
    · rename_i fd hf
      split at e
      · rename_i n hn
        cases e
        rw [nth_eq, Array.getElem?_toList] at hf
        obtain ⟨L, hL, hnil, rfl⟩ := den_ptr (relS_den hx (by simp))
        refine ⟨.pointer (some ⟨L.blk, L.base + i * L.wid + (j + fd.offset), none⟩), ?_, by simp [den, hL, hnil]⟩
        simp [Instr.fieldAt, run_underlying' hu, hf, Instr.sureAddr, fieldPlace, run_sizeOf hn, addr_add, Nat.add_assoc]
      · cases e
    · cases e
  · cases e

theorem int_of_lit {ρ : Ren} {v : AV} {x : Value} {m : Nat} (h : ∃ k, v = .int k (m : Int) ∨ v = .sym k (m : Int)) (hx : relS ρ v x) : ∃ k, x = .int k (m : Int) := by
  obtain ⟨k, rfl | rfl⟩ := h
  · have := relS_den hx (by simp); simp [den] at this; exact ⟨k, this.symm⟩
  · have := relS_den hx (by simp); simp [den] at this; exact ⟨k, this.symm⟩

/-- What a slice's value says. -/
theorem den_ss {ρ : Ren} {wd b off len : Nat} {c : Option Nat} {x : Value} (h : den ρ (.ss wd b off len c) = some x) : ∃ l, ρ b = some l ∧ l.wid = wd ∧
    ((l.isnil = true ∧ off = 0 ∧ len = 0 ∧ capOr c 0 = 0 ∧ x = .slice none 0 0) ∨
     (l.isnil = false ∧ len ≤ capOr c (l.cap - off) ∧ off + capOr c (l.cap - off) ≤ l.cap ∧ x = .slice (some ⟨l.blk, l.base + off * l.wid, none⟩) len (capOr c (l.cap - off)))) := by
  simp only [den] at h
  cases hb : ρ b with
  | none => simp [hb] at h
  | some l =>
    simp only [hb, Loc.slice] at h
    split at h
    · rename_i hw
      refine ⟨l, rfl, hw, ?_⟩
      cases hn : l.isnil with
      | true =>
        simp only [hn] at h
        split at h
        · rename_i hc; cases h; exact .inl ⟨rfl, hc.1, hc.2.1, hc.2.2, rfl⟩
        · cases h
      | false =>
        simp only [hn] at h
        split at h
        · rename_i hc; cases h; exact .inr ⟨rfl, hc.1, hc.2, rfl⟩
        · cases h
    · cases h

theorem den_xs {ρ : Ren} {wd b off len : Nat} {c : Option Nat} {x : Value} (h : den ρ (.xs wd b off len c) = some x) : ∃ l, ρ b = some l ∧ l.wid = wd ∧ l.isnil = false ∧
     len ≤ capOr c (l.cap - off) ∧ off + capOr c (l.cap - off) ≤ l.cap ∧ x = .slice (some ⟨l.blk, l.base + off * l.wid, none⟩) len (capOr c (l.cap - off)) := by
  simp only [den] at h
  cases hb : ρ b with
  | none => simp [hb] at h
  | some l =>
    simp only [hb] at h
    cases hn : l.isnil with
    | true => simp [hn] at h
    | false =>
      simp only [hn] at h
      have h' : den ρ (.ss wd b off len c) = some x := by simp only [den, hb]; exact h
      obtain ⟨l', hl', hw, hc | hc⟩ := den_ss h'
      · rw [hb] at hl'; cases hl'; rw [hn] at hc; exact absurd hc.1 (by simp)
      · rw [hb] at hl'; cases hl'; exact ⟨l, rfl, hw, hn, hc.2⟩

theorem indexAddr_ok {P : Program} {ρ : Ren} {w : World} {t : TypeId} {v ix r : AV} {h h' : Hp} (e : indexAddrA P t v ix h = some (r, h')) :
    Qt h h' ∧ r ≠ .top ∧ ((∀ p ∈ h'.ob, p) → ∀ x y, relS ρ v x → relS ρ ix y → ∃ z, (Instr.indexAt t x y).run P w = .ok z w ∧ den ρ r = some z) := by
  unfold indexAddrA at e
  split at e
  · rename_i wd b off len c el hu
    split at e
    · rename_i i h1 n hl hn
      split at e
      · rename_i hlt hw
        cases e
        obtain ⟨q, o⟩ := literal_qt hl
        refine ⟨q, by simp, fun ho x y hx hy => ?_⟩
        have hlt' : i < len := by simpa [Nat.blt_eq] using hlt
        have hw' := Nat.eq_of_beq_eq_true hw
        obtain ⟨k, rfl⟩ := int_of_lit (o ho) hy
        obtain ⟨L, hL, hwd, hnil, hcl, hcap, rfl⟩ := den_xs (relS_den hx (by simp))
        refine ⟨.pointer (some ⟨L.blk, L.base + (off + i) * L.wid + 0, none⟩), ?_, by simp [den, hL, hnil]⟩
        simp [Instr.indexAt, asIntOf, run_underlying' hu, run_sizeOf hn, addr_add]
        rw [if_pos (by omega)]
        simp [run_sizeOf hn, addr_add, hw', ← hwd, Nat.add_mul, Nat.add_assoc]
      · cases e
    · cases e
  · rename_i wd b off len c el hu
    split at e
    · rename_i i h1 n hl hn
      split at e
      · rename_i hw
        cases e
        obtain ⟨q, o⟩ := index_qt hl
        refine ⟨q, by simp, fun ho x y hx hy => ?_⟩
        have hw' := Nat.eq_of_beq_eq_true hw
        obtain ⟨hlt', hk⟩ := o ho
        obtain ⟨k, rfl⟩ := int_of_lit hk hy
        obtain ⟨L, hL, hwd, hc | ⟨hnil, hcl, hcap, rfl⟩⟩ := den_ss (relS_den hx (by simp))
        · omega
        refine ⟨.pointer (some ⟨L.blk, L.base + (off + i) * L.wid + 0, none⟩), ?_, by simp [den, hL, hnil]⟩
        simp [Instr.indexAt, asIntOf, run_underlying' hu, run_sizeOf hn, addr_add]
        rw [if_pos (by omega)]
        simp [run_sizeOf hn, addr_add, hw', ← hwd, Nat.add_mul, Nat.add_assoc]
      · cases e
    · cases e
  · rename_i b i j len el hu
    split at e
    · rename_i n h1 s hl hn
      split at e
      · rename_i hlt
        cases e
        obtain ⟨q, o⟩ := literal_qt hl
        refine ⟨q, by simp, fun ho x y hx hy => ?_⟩
        have hlt' : n < len := by simpa [Nat.blt_eq] using hlt
        obtain ⟨k, rfl⟩ := int_of_lit (o ho) hy
        obtain ⟨L, hL, hnil, rfl⟩ := den_ptr (relS_den hx (by simp))
        refine ⟨.pointer (some ⟨L.blk, L.base + i * L.wid + (j + n * s), none⟩), ?_, by simp [den, hL, hnil]⟩
        simp [Instr.indexAt, asIntOf, run_underlying' hu, Instr.sureAddr]
        rw [if_pos (by omega)]
        simp [run_sizeOf hn, addr_add, Nat.add_assoc]
      · cases e
    · cases e
  · cases e

theorem index_ok {P : Program} {ρ : Ren} {w : World} {t : TypeId} {v ix r : AV} {h h' : Hp} (e : indexA P t v ix h = some (r, h')) :
    Qt h h' ∧ ((∀ p ∈ h'.ob, p) → ∀ x y, relS ρ v x → relS ρ ix y → ∃ z, (Instr.index t x y).run P w = .ok z w ∧ den ρ r = some z) := by
  unfold indexA at e
  split at e
  · rename_i l len el hu
    split at e
    · rename_i i h1 n hl hn
      split at e
      · rename_i x0 hlt hp
        cases e
        obtain ⟨q, o⟩ := literal_qt hl
        refine ⟨q, fun ho x y hx hy => ?_⟩
        have hlt' : i < len := by simpa [Nat.blt_eq] using hlt
        obtain ⟨k, rfl⟩ := int_of_lit (o ho) hy
        obtain ⟨xs, hxs, rfl⟩ := den_agg (relS_den hx (by simp))
        obtain ⟨z, hz, hd⟩ := part_ok (w := w) hp hxs
        refine ⟨z, ?_, hd⟩
        simp [Instr.index, asIntOf, run_underlying' hu]
        rw [if_pos (by omega)]
        simp [run_sizeOf hn, hz]
      · cases e
    · cases e
  · cases e

/-! ### operators -/
theorem eqFields_ok {P : Program} {ρ : Ren} {w : World} {d : Nat} {eqv : TypeId → AV → AV → Option (Bool × Bool)}
    (ih : ∀ t x y c b X Y, eqv t x y = some (c, b) → den ρ x = some X → den ρ y = some Y → (Op.equalIn d t X Y).run P w = .ok b w) {l m : List AV} {xs ys : List Value} (hl : denL ρ l = some xs) (hm : denL ρ m = some ys) :
    ∀ (fs : List Field) (c b : Bool), eqFields P eqv l m fs = some (c, b) → (Op.eqFields d xs.toArray ys.toArray fs).run P w = .ok b w
  | [], c, b, e => by simp only [eqFields] at e; cases e; simp [Op.eqFields]
  | f :: r, c, b, e => by
    simp only [eqFields] at e
    split at e
    · rename_i a b' hn ha hb
      split at e
      · rename_i c1 p d1 q h1 h2
        cases e
        obtain ⟨x, hx, hdx⟩ := part_ok (w := w) ha hl
        obtain ⟨y, hy, hdy⟩ := part_ok (w := w) hb hm
        have hn' : f.name ≠ "_" := of_decide_eq_true hn
        have := ih _ _ _ _ _ _ _ h1 hdx hdy
        have hrest := eqFields_ok ih hl hm r _ _ h2
        simp only [Op.eqFields]
        rw [if_pos hn']
        simp only [Sem.run_bind, hx, hy, Result.andThen_ok, this]
        cases p
        · simp [and2]
        · simp [and2, hrest]
      · cases e
    · cases e

theorem eqItems_ok {P : Program} {ρ : Ren} {w : World} {d : Nat} {eqv : TypeId → AV → AV → Option (Bool × Bool)} {el : TypeId} {sz : Nat}
    (ih : ∀ t x y c b X Y, eqv t x y = some (c, b) → den ρ x = some X → den ρ y = some Y → (Op.equalIn d t X Y).run P w = .ok b w) {l m : List AV} {xs ys : List Value} (hl : denL ρ l = some xs) (hm : denL ρ m = some ys) :
    ∀ (is : List Nat) (c b : Bool), eqItemsA P eqv el sz l m is = some (c, b) → (Op.eqItems d el sz xs.toArray ys.toArray is).run P w = .ok b w
  | [], c, b, e => by simp only [eqItemsA] at e; cases e; simp [Op.eqItems]
  | i :: r, c, b, e => by
    simp only [eqItemsA] at e
    split at e
    · rename_i a b' ha hb
      split at e
      · rename_i c1 p d1 q h1 h2
        cases e
        obtain ⟨x, hx, hdx⟩ := part_ok (w := w) ha hl
        obtain ⟨y, hy, hdy⟩ := part_ok (w := w) hb hm
        have := ih _ _ _ _ _ _ _ h1 hdx hdy
        have hrest := eqItems_ok ih hl hm r _ _ h2
        simp only [Op.eqItems]
        simp only [Sem.run_bind, hx, hy, Result.andThen_ok, this]
        cases p
        · simp [and2]
        · simp [and2, hrest]
      · cases e
    · cases e

theorem eqA_ok {P : Program} {ρ : Ren} {w : World} : ∀ (d : Nat) (t : TypeId) (x y : AV) (c b : Bool) (X Y : Value), eqA P d t x y = some (c, b) → den ρ x = some X → den ρ y = some Y → (Op.equalIn d t X Y).run P w = .ok b w
  | 0, t, x, y, c, b, X, Y, e, _, _ => by simp [eqA] at e
  | d + 1, t, x, y, c, b, X, Y, e, hx, hy => by
    simp only [eqA] at e
    split at e
    · rename_i hu
      split at e
      · rename_i c1 a c2 b' h1 h2
        cases e
        obtain ⟨h1, _⟩ := asB_den (ρ := ρ) h1
        obtain ⟨h2, _⟩ := asB_den (ρ := ρ) h2
        rw [hx] at h1; rw [hy] at h2; cases h1; cases h2
        exact run_equalIn_bool' w d t _ _ hu
      · cases e
    · rename_i hu
      split at e
      · rename_i k c1 a k' c2 b' h1 h2
        split at e
        · rename_i hk
          cases e
          have hk := of_decide_eq_true hk; subst hk
          obtain ⟨h1, _⟩ := asI_den (ρ := ρ) h1
          obtain ⟨h2, _⟩ := asI_den (ρ := ρ) h2
          rw [hx] at h1; rw [hy] at h2; cases h1; cases h2
          exact run_equalIn_int w d t _ _ _ _ hu
        · cases e
      · cases e
    · rename_i fields hu
      split at e
      · rename_i l m
        split at e
        · cases e
        · rename_i hst
          obtain ⟨xs, hxs, rfl⟩ := den_agg hx
          obtain ⟨ys, hys, rfl⟩ := den_agg hy
          have hfo : P.fieldsOf t = fields := by simp [Program.fieldsOf, hu]
          rw [run_equalIn_struct w d t _ _ (by rw [hfo]; exact hu) hst, hfo]
          exact eqFields_ok (fun t x y c b X Y e hx hy => eqA_ok d t x y c b X Y e hx hy) hxs hys _ _ _ e
      · cases e
    · rename_i n el hu
      split at e
      · rename_i l m sz hsz
        obtain ⟨xs, hxs, rfl⟩ := den_agg hx
        obtain ⟨ys, hys, rfl⟩ := den_agg hy
        simp only [sizeT, Option.map_eq_some_iff] at hsz
        obtain ⟨i, hi, rfl⟩ := hsz
        rw [run_equalIn_array w d _ _ hu hi]
        have hc : P.cellsOf el = i.size := by simp [Program.cellsOf, hi]
        rw [hc]
        exact eqItems_ok (fun t x y c b X Y e hx hy => eqA_ok d t x y c b X Y e hx hy) hxs hys _ _ _ e
      · cases e
    · rename_i el hu
      split at e <;> cases e
      · simp [den] at hx hy; subst hx; subst hy; simp [Op.equalIn, run_underlying' hu]
      · obtain ⟨L, _, _, rfl⟩ := den_ptr hy; simp [den] at hx; subst hx; simp [Op.equalIn, run_underlying' hu]
      · obtain ⟨L, _, _, rfl⟩ := den_ptr hx; simp [den] at hy; subst hy; simp [Op.equalIn, run_underlying' hu]
    · rename_i el hu
      split at e <;> cases e
      · simp [den] at hx hy; subst hx; subst hy; simp [Op.equalIn, run_underlying' hu]
      · obtain ⟨L, _, _, _, _, _, rfl⟩ := den_xs hy; simp [den] at hx; subst hx; simp [Op.equalIn, run_underlying' hu]
      · obtain ⟨L, _, _, _, _, _, rfl⟩ := den_xs hx; simp [den] at hy; subst hy; simp [Op.equalIn, run_underlying' hu]
    · rename_i k el hu
      split at e <;> cases e
      · simp [den] at hx hy; subst hx; subst hy; simp [Op.equalIn, run_underlying' hu]
      · rename_i m
        simp only [den] at hx hy; cases hx
        cases hb : ρ m with
        | none => simp [hb] at hy
        | some l => simp only [hb] at hy; cases hy; simp [Op.equalIn, run_underlying' hu]
      · rename_i m
        simp only [den] at hx hy; cases hy
        cases hb : ρ m with
        | none => simp [hb] at hx
        | some l => simp only [hb] at hx; cases hx; simp [Op.equalIn, run_underlying' hu]
    · rename_i a1 a2 a3 hu
      split at e <;> cases e
      · simp [den] at hx hy; subst hx; subst hy; simp [Op.equalIn, run_underlying' hu]
      · rename_i f l m
        simp only [den] at hx hy; cases hx
        cases hl : denL ρ l with
        | none => simp [hl] at hy
        | some l' => cases hm : denL ρ m with
          | none => simp [hl, hm] at hy
          | some m' => simp only [hl, hm] at hy; cases hy; simp [Op.equalIn, run_underlying' hu]
      · rename_i f l m
        simp only [den] at hx hy; cases hy
        cases hl : denL ρ l with
        | none => simp [hl] at hx
        | some l' => cases hm : denL ρ m with
          | none => simp [hl, hm] at hx
          | some m' => simp only [hl, hm] at hx; cases hx; simp [Op.equalIn, run_underlying' hu]
    · rename_i ms hu
      split at e <;> cases e
      · rename_i t' v
        simp only [den] at hx hy; cases hx
        cases hl : den ρ v with
        | none => simp [hl] at hy
        | some l' => simp only [hl] at hy; cases hy; simp [Op.equalIn, run_underlying' hu]
      · rename_i t' v
        simp only [den] at hx hy; cases hy
        cases hl : den ρ v with
        | none => simp [hl] at hx
        | some l' => simp only [hl] at hx; cases hx; simp [Op.equalIn, run_underlying' hu]
    · cases e

end Go.Ev

/-
  Operators, slices, lengths: the soundness of the evaluator, sixth part.
-/
set_option linter.unusedSimpArgs false
set_option linter.unusedVariables false
namespace Go.Ev

/-- The block of an explicit object is a row of cells none of which is frozen. -/
theorem cells_plain {P : Program} {ρ : Ren} {w : World} {l : Loc} {wd : Nat} {cs : List AV} (h : ObjRep P ρ w l (.cells wd cs)) :
    (∃ e n, w.shape? l.blk = some (e, n) ∧ l.base + cs.length ≤ n) ∧ ∀ o, w.frozen? ⟨l.blk, o, none⟩ = false := by
  obtain ⟨h0, h1, h2, c, t, fr, hb, hf, hc, hc2, hv⟩ := h
  obtain ⟨lo, hi⟩ := fr
  refine ⟨⟨t, c.size, by simp [World.shape?, hb], (by omega)⟩, fun o => ?_⟩
  simp only [World.frozen?, hb]
  simp only at hf
  by_cases hlo : lo ≤ o <;> simp [hlo] <;> omega

theorem eqPtr_ok {P : Program} {ρ : Ren} {w : World} {t : TypeId} {x y : AV} {h : Hp} {b : Bool} {X Y : Value} (e : eqPtr P t x y h = some b) (hr : HeapRep P ρ h.heap w) (hx : den ρ x = some X) (hy : den ρ y = some Y) :
    (Op.equalIn 10000 t X Y).run P w = .ok b w ∧ X ≠ .nilIface ∧ (∀ a, X ≠ .agg a) := by
  unfold eqPtr at e
  split at e
  · rename_i el b1 i j b2 i' j' hu
    split at e
    · rename_i n wd l wd' l' hn hg1 hg2
      obtain ⟨L, hL, hnil, rfl⟩ := den_ptr hx
      obtain ⟨L', hL', hnil', rfl⟩ := den_ptr hy
      refine ⟨?_, by simp, by simp⟩
      have ho1 := hr.obj hg1 hL
      have ho2 := hr.obj hg2 hL'
      have hs : ∀ d a b', (Op.equalIn (d + 1) t (.pointer (some a)) (.pointer (some b'))).run P w = (sameAddr a b').run P w := by
        intro d a b'
        simp [Op.equalIn, run_underlying' hu, run_sizeOf hn]
      rw [hs 9999]
      split at e
      · rename_i hb
        have hb := Nat.eq_of_beq_eq_true hb
        subst hb
        rw [hL] at hL'; cases hL'
        have hw1 := ho1.2.2.1
        have hw2 := ho2.2.2.1
        split at e
        · rename_i hij
          cases e
          have hij := Nat.eq_of_beq_eq_true hij
          simp [sameAddr, hw1, hw2]
          subst hw1; rw [← hw2] at hij; omega
        · rename_i hij
          cases e
          have hij : ¬ (i * wd + j = i' * wd' + j') := by rw [← Nat.beq_eq, hij]; simp
          simp [sameAddr]
          subst hw1; rw [← hw2] at hij; omega
      · rename_i hb
        have hb : b1 ≠ b2 := by intro x; subst x; simp at hb
        split at e
        · rename_i hlt1 hlt2
          cases e
          have hne := hr.2 b1 b2 _ _ L L' hg1 hg2 hb rfl hL hL' ho1.2.1 ho2.2.1
          obtain ⟨⟨e1, n1, hs1, hn1⟩, hf1⟩ := cells_plain ho1
          obtain ⟨⟨e2, n2, hs2, hn2⟩, hf2⟩ := cells_plain ho2
          have hlt1' : i * wd + j < l.length := by simpa [Nat.blt_eq] using hlt1
          have hlt2' : i' * wd' + j' < l'.length := by simpa [Nat.blt_eq] using hlt2
          have hn1' : n1 ≠ 0 := by omega
          have hn2' : n2 ≠ 0 := by omega
          have hbq : (L.blk == L'.blk) = false := by simpa using hne
          simp [sameAddr, hbq, hf1, hf2, noView, viewAt, hs1, hs2, mayBeOne, stringish, hn1', hn2']
        · cases e
    · cases e
  · cases e

theorem eqGuard_int {P : Program} {w : World} (op : BinOp) (t : TypeId) (x y : Operand) (k k' : IntKind) (a b : Int) : (eqGuard op t x y (.int k a) (.int k' b)).run P w = .ok () w := by
  cases op <;> simp [eqGuard]

theorem eqGuard_other {P : Program} {w : World} (op : BinOp) (t : TypeId) (x y : Operand) (a b : Value) (h1 : a ≠ .nilIface ∨ b ≠ .nilIface) (h2 : (∀ c, a ≠ .agg c) ∨ (∀ c, b ≠ .agg c) ∨ P.eqGuardType P.depth t = false) : (eqGuard op t x y a b).run P w = .ok () w := by
  by_cases hop : op = .eql ∨ op = .neq
  · unfold eqGuard
    rcases hop with rfl | rfl <;> (
      cases a <;> first
        | (simp; done)
        | (cases b <;> first
            | (simp; done)
            | (simp at h1; done)
            | (rcases h2 with h2 | h2 | h2 <;> first | exact absurd rfl (h2 _) | simp [h2])))
  · cases op <;> first | (simp [eqGuard]; done) | (simp at hop)

theorem run_intOp {P : Program} {w : World} {op : BinOp} {t : TypeId} {k k' : IntKind} {a b r : Int} (h : shiftA op k a b = some r) (hb : 0 ≤ b) : (binOp op t (.int k a) (.int k' b)).run P w = .ok (.int k r) w := by
  unfold shiftA at h
  cases op <;> simp at h <;> subst h <;> simp [binOp, Op.shift, show ¬ b < 0 by omega]

theorem run_arith {P : Program} {w : World} {op : BinOp} {t : TypeId} {k : IntKind} {a b r : Int} (h : arith op k a b = some r) : (binOp op t (.int k a) (.int k b)).run P w = .ok (.int k r) w := by
  unfold arith at h
  cases op <;> simp only [Option.some.injEq] at h <;> first
    | (subst h; simp [binOp, Op.intArith, Op.intBits]; done)
    | (subst h; simp [binOp, Op.intArith, Op.intBits]; rfl)
    | cases h

theorem run_div {P : Program} {w : World} {op : BinOp} {t : TypeId} {k : IntKind} {a b r : Int} (h : divide op k a b = some r) (hb : b ≠ 0) : (binOp op t (.int k a) (.int k b)).run P w = .ok (.int k r) w := by
  unfold divide at h
  cases op <;> simp at h <;> subst h <;> simp [binOp, Op.intDiv, hb]

theorem run_cmp {P : Program} {w : World} {op : BinOp} {t : TypeId} {k : IntKind} {a b : Int} {r : Bool} (h : cmpA op a b = some r) : (binOp op t (.int k a) (.int k b)).run P w = .ok (.bool r) w := by
  unfold cmpA at h
  cases op <;> simp only [Option.some.injEq] at h <;> first
    | (subst h; simp [binOp, Op.intCmp]; done)
    | cases h

def plainV : Value → Prop
  | .int .. | .float .. | .complex .. | .string _ => False
  | _ => True

theorem eqA_shape {P : Program} {ρ : Ren} {d : Nat} {t : TypeId} {x y : AV} {c b : Bool} {X Y : Value} (e : eqA P d t x y = some (c, b)) (hn : ∀ p q, asI x = some p → asI y = some q → False) (hx : den ρ x = some X) (hy : den ρ y = some Y) :
    plainV X ∧ (X ≠ .nilIface ∨ Y ≠ .nilIface) ∧ ((∀ c, X ≠ .agg c) ∨ ∃ l m, x = .agg l ∧ y = .agg m) := by
  cases d with
  | zero => simp [eqA] at e
  | succ d =>
    simp only [eqA] at e
    split at e
    · split at e
      · rename_i c1 a c2 b' h1 h2
        obtain ⟨h1, _⟩ := asB_den (ρ := ρ) h1
        rw [hx] at h1; cases h1
        exact ⟨trivial, .inl (by simp), .inl (by simp)⟩
      · cases e
    · split at e
      · rename_i h1 h2; exact (hn _ _ h1 h2).elim
      · cases e
    · split at e
      · rename_i l m
        obtain ⟨xs, hxs, rfl⟩ := den_agg hx
        exact ⟨trivial, .inl (by simp), .inr ⟨_, _, rfl, rfl⟩⟩
      · cases e
    · split at e
      · rename_i l m sz hsz
        obtain ⟨xs, hxs, rfl⟩ := den_agg hx
        exact ⟨trivial, .inl (by simp), .inr ⟨_, _, rfl, rfl⟩⟩
      · cases e
    · split at e <;> cases e
      · simp [den] at hx; subst hx; exact ⟨trivial, .inl (by simp), .inl (by simp)⟩
      · simp [den] at hx; subst hx; exact ⟨trivial, .inl (by simp), .inl (by simp)⟩
      · obtain ⟨L, _, _, rfl⟩ := den_ptr hx; exact ⟨trivial, .inl (by simp), .inl (by simp)⟩
    · split at e <;> cases e
      · simp [den] at hx; subst hx; exact ⟨trivial, .inl (by simp), .inl (by simp)⟩
      · simp [den] at hx; subst hx; exact ⟨trivial, .inl (by simp), .inl (by simp)⟩
      · obtain ⟨L, _, _, _, _, _, rfl⟩ := den_xs hx; exact ⟨trivial, .inl (by simp), .inl (by simp)⟩
    · split at e <;> cases e
      · simp [den] at hx; subst hx; exact ⟨trivial, .inl (by simp), .inl (by simp)⟩
      · simp [den] at hx; subst hx; exact ⟨trivial, .inl (by simp), .inl (by simp)⟩
      · rename_i m
        simp only [den] at hx
        cases hb : ρ m with
        | none => simp [hb] at hx
        | some l => simp only [hb] at hx; cases hx; exact ⟨trivial, .inl (by simp), .inl (by simp)⟩
    · split at e <;> cases e
      · simp [den] at hx; subst hx; exact ⟨trivial, .inl (by simp), .inl (by simp)⟩
      · simp [den] at hx; subst hx; exact ⟨trivial, .inl (by simp), .inl (by simp)⟩
      · rename_i f l m
        simp only [den] at hx
        cases hl : denL ρ l with
        | none => simp [hl] at hx
        | some l' => cases hm : denL ρ m with
          | none => simp [hl, hm] at hx
          | some m' => simp only [hl, hm] at hx; cases hx; exact ⟨trivial, .inl (by simp), .inl (by simp)⟩
    · split at e <;> cases e
      · rename_i t' v
        simp only [den] at hx hy; cases hx
        cases hl : den ρ v with
        | none => simp [hl] at hy
        | some l' => simp only [hl] at hy; cases hy; exact ⟨trivial, .inr (by simp), .inl (by simp)⟩
      · rename_i t' v
        simp only [den] at hx hy
        cases hl : den ρ v with
        | none => simp [hl] at hx
        | some l' => simp only [hl] at hx; cases hx; exact ⟨trivial, .inl (by simp), .inl (by simp)⟩
    · cases e

theorem run_eqOp {P : Program} {w : World} {op : BinOp} {t : TypeId} {s : Bool} (hop : isEq op = some s) {b : Bool} {X Y : Value} (hb : (Op.equalIn 10000 t X Y).run P w = .ok b w) (hp : plainV X) : (binOp op t X Y).run P w = .ok (.bool (b == s)) w := by
  cases op <;> simp [isEq] at hop <;> subst hop <;> cases X <;> first
    | exact hp.elim
    | (simp [binOp, Op.equal, Op.maxDepth, hb]; done)

theorem bin_ok {P : Program} {ρ : Ren} {w : World} {op : BinOp} {t : TypeId} {x y r : AV} {h h' : Hp} (e : binA P op t x y h = some (r, h')) :
    Qt h h' ∧ r ≠ .top ∧ ((∀ p ∈ h'.ob, p) → HeapRep P ρ h.heap w → ∀ (ox oy : Operand) X Y, relS ρ x X → relS ρ y Y → ∃ z, (do eqGuard op t ox oy X Y; binOp op t X Y : Sem Value).run P w = .ok z w ∧ den ρ r = some z) := by
  unfold binA at e
  split at e
  · rename_i k c a k' d b hxa hyb
    have hX : ∀ X, relS ρ x X → X = .int k a := fun X hX => by
      obtain ⟨h1, h2⟩ := asI_den (ρ := ρ) hxa
      have := relS_den hX h2; rw [h1] at this; cases this; rfl
    have hY : ∀ Y, relS ρ y Y → Y = .int k' b := fun Y hY => by
      obtain ⟨h1, h2⟩ := asI_den (ρ := ρ) hyb
      have := relS_den hY h2; rw [h1] at this; cases this; rfl
    split at e
    · rename_i r0 hs
      split at e
      · rename_i h1 hc
        cases e
        obtain ⟨q, o⟩ := check_qt hc
        refine ⟨q, by cases (and2 c d) <;> simp [mkI], fun ho hr ox oy X Y hx hy => ?_⟩
        rw [hX X hx, hY Y hy]
        have hb : 0 ≤ b := by simpa using o ho
        exact ⟨_, by simp [eqGuard_int, run_intOp hs hb], mkI_den⟩
      · cases e
    · split at e
      · cases e
      rename_i hk
      have hk := of_decide_eq_true hk
      subst hk
      split at e
      · rename_i r0 ha
        cases e
        refine ⟨.refl _, by cases (and2 c d) <;> simp [mkI], fun ho hr ox oy X Y hx hy => ?_⟩
        rw [hX X hx, hY Y hy]
        exact ⟨_, by simp [eqGuard_int, run_arith ha], mkI_den⟩
      · split at e
        · rename_i r0 hd
          split at e
          · rename_i h1 hc
            cases e
            obtain ⟨q, o⟩ := check_qt hc
            refine ⟨q, by cases (and2 c d) <;> simp [mkI], fun ho hr ox oy X Y hx hy => ?_⟩
            rw [hX X hx, hY Y hy]
            have hb : b ≠ 0 := by simpa using o ho
            exact ⟨_, by simp [eqGuard_int, run_div hd hb], mkI_den⟩
          · cases e
        · split at e
          · rename_i r0 hc
            cases e
            refine ⟨.refl _, by cases (and2 c d) <;> simp [mkB], fun ho hr ox oy X Y hx hy => ?_⟩
            rw [hX X hx, hY Y hy]
            exact ⟨_, by simp [eqGuard_int, run_cmp hc], mkB_den⟩
          · cases e
  · rename_i hnot
    split at e
    · rename_i s hop hg
      have hgk : x ≠ .top ∧ y ≠ .top := by
        refine ⟨fun ex => ?_, fun ey => ?_⟩
        · subst ex; simp [guardOk] at hg; cases y <;> simp at hg
        · subst ey; cases x <;> simp [guardOk] at hg
      have hagg : ∀ l m, x = .agg l → y = .agg m → P.eqGuardType P.depth t = false := by
        rintro l m rfl rfl
        simp only [guardOk] at hg
        split at hg
        · cases hg
        · assumption
      split at e
      · rename_i c b he
        cases e
        refine ⟨.refl _, by cases c <;> simp [mkB], fun ho hr ox oy X Y hx hy => ?_⟩
        have hx' := relS_den hx hgk.1
        have hy' := relS_den hy hgk.2
        have hrun := eqA_ok (w := w) 10000 t x y c b X Y he hx' hy'
        obtain ⟨s1, s2, s3⟩ := eqA_shape he (fun p q h1 h2 => by
          obtain ⟨k, c, a⟩ := p; obtain ⟨k', d, b⟩ := q
          exact hnot _ _ _ _ _ _ h1 h2) hx' hy'
        refine ⟨.bool (b == s), ?_, mkB_den⟩
        have hguard := eqGuard_other (P := P) (w := w) op t ox oy X Y s2 (by
          rcases s3 with s3 | ⟨l, m, h1, h2⟩
          · exact .inl s3
          · exact .inr (.inr (hagg l m h1 h2)))
        simp [hguard, run_eqOp hop hrun s1]
      · split at e
        · rename_i b he
          cases e
          refine ⟨.refl _, by simp, fun ho hr ox oy X Y hx hy => ?_⟩
          have hx' := relS_den hx hgk.1
          have hy' := relS_den hy hgk.2
          obtain ⟨hrun, n1, n2⟩ := eqPtr_ok (w := w) he hr hx' hy'
          have hpl : plainV X := by
            unfold eqPtr at he
            split at he
            · obtain ⟨L, _, _, rfl⟩ := den_ptr hx'; trivial
            · cases he
          refine ⟨.bool (b == s), ?_, by simp [den]⟩
          have hguard := eqGuard_other (P := P) (w := w) op t ox oy X Y (.inl n1) (.inl n2)
          simp [hguard, run_eqOp hop hrun hpl]
        · cases e
    · cases e

theorem un_ok {P : Program} {ρ : Ren} {w : World} {op : UnOp} {x r : AV} {X : Value} (e : unA op x = some r) (hx : relS ρ x X) : ∃ z, (Op.unary op X).run P w = .ok z w ∧ den ρ r = some z := by
  unfold unA at e
  split at e
  · split at e
    · rename_i c b hb
      cases e
      obtain ⟨h1, h2⟩ := asB_den (ρ := ρ) hb
      have := relS_den hx h2; rw [h1] at this; cases this
      exact ⟨_, by simp [Op.unary], mkB_den⟩
    · cases e
  · split at e
    · rename_i k c n hb
      cases e
      obtain ⟨h1, h2⟩ := asI_den (ρ := ρ) hb
      have := relS_den hx h2; rw [h1] at this; cases this
      exact ⟨_, by simp [Op.unary, Op.intArith]; rfl, by simp [mkI_den]⟩
    · cases e
  · split at e
    · rename_i k c n hb
      cases e
      obtain ⟨h1, h2⟩ := asI_den (ρ := ρ) hb
      have := relS_den hx h2; rw [h1] at this; cases this
      exact ⟨_, by simp [Op.unary, Op.intBits]; rfl, by simp [mkI_den]⟩
    · cases e
  · cases e

theorem conv_ok {P : Program} {ρ : Ren} {w : World} {src dst : TypeId} {x r : AV} {X : Value} (hs : ∃ d, P.underlying src = some d) (e : convA P dst x = some r) (hx : relS ρ x X) : ∃ z, (convert src dst X).run P w = .ok z w ∧ den ρ r = some z := by
  unfold convA at e
  split at e
  · rename_i k k0 c n hu hb
    cases e
    obtain ⟨h1, h2⟩ := asI_den (ρ := ρ) hb
    have := relS_den hx h2; rw [h1] at this; cases this
    obtain ⟨d, hd⟩ := hs
    refine ⟨.int k (k.wrap n), ?_, mkI_den⟩
    simp only [convert, Sem.run_bind, run_underlying' hd, run_underlying' hu, Result.andThen_ok]
    cases d <;> simp [Conv.intToInt]
  · cases e

/-! ### slices -/
theorem bound_run {P : Program} {ρ : Ren} {w : World} {v : AV} {x : Value} {m b : Nat} {code : BoundsCode} (h : m ≤ b ∧ ∃ k, v = .int k (m : Int) ∨ v = .sym k (m : Int)) (hx : relS ρ v x) (c : Nat) (hc : b ≤ c) : (Instr.sliceBound x c code).run P w = .ok m w := by
  obtain ⟨k, rfl⟩ := int_of_lit h.2 hx
  simp [Instr.sliceBound, asIntOf]
  omega

def OptRel (ρ : Ren) (v : Option AV) (x : Option Value) : Prop := match v, x with
  | none, none => True
  | some v, some x => relS ρ v x
  | _, _ => False

theorem boundMax_qt {ex : Bool} {len : Nat} {c c' : Option Nat} {mx : Option AV} {h h' : Hp} (e : boundMax ex len c mx h = some (c', h')) :
    Qt h h' ∧ ((∀ p ∈ h'.ob, p) → (mx = none ∧ c' = c) ∨ ∃ y n, mx = some y ∧ c' = some n ∧ n ≤ capOr c len ∧ ∃ k, y = .int k (n : Int) ∨ y = .sym k (n : Int)) := by
  unfold boundMax at e
  split at e
  · cases e; exact ⟨.refl _, fun _ => .inl ⟨rfl, rfl⟩⟩
  · split at e
    · rename_i y n h1 hb
      cases e
      obtain ⟨q, o⟩ := bound_qt hb
      exact ⟨q, fun ho => .inr ⟨_, _, rfl, rfl, o ho⟩⟩
    · cases e

theorem boundHigh_qt {ex : Bool} {len m : Nat} {c : Option Nat} {hi mx : Option AV} {h h' : Hp} (e : boundHigh ex len c hi mx h = some (m, h')) :
    Qt h h' ∧ ((∀ p ∈ h'.ob, p) → (hi = none ∧ mx = none ∧ m = len) ∨ ∃ y, hi = some y ∧ m ≤ capOr c len ∧ ∃ k, y = .int k (m : Int) ∨ y = .sym k (m : Int)) := by
  unfold boundHigh at e
  split at e
  · rename_i y
    obtain ⟨q, o⟩ := bound_qt e
    exact ⟨q, fun ho => .inr ⟨_, rfl, o ho⟩⟩
  · split at e
    · cases e; exact ⟨.refl _, fun _ => .inl ⟨rfl, rfl, rfl⟩⟩
    · cases e

theorem boundLow_qt {ex : Bool} {m l : Nat} {lo : Option AV} {h h' : Hp} (e : boundLow ex m lo h = some (l, h')) :
    Qt h h' ∧ ((∀ p ∈ h'.ob, p) → (lo = none ∧ l = 0) ∨ ∃ y, lo = some y ∧ l ≤ m ∧ ∃ k, y = .int k (l : Int) ∨ y = .sym k (l : Int)) := by
  unfold boundLow at e
  split at e
  · rename_i y
    obtain ⟨q, o⟩ := bound_qt e
    exact ⟨q, fun ho => .inr ⟨_, rfl, o ho⟩⟩
  · cases e; exact ⟨.refl _, fun _ => .inl ⟨rfl, rfl⟩⟩

theorem sliceBounds_ok {P : Program} {ρ : Ren} {w : World} {ex : Bool} {len l m : Nat} {c c' : Option Nat} {lo hi mx : Option AV} {h h' : Hp} (e : sliceBoundsA ex len c lo hi mx h = some (l, m, c', h')) :
    Qt h h' ∧ ((∀ p ∈ h'.ob, p) → ∀ cap, len ≤ capOr c cap → capOr c cap ≤ cap → ∀ lo' hi' mx', OptRel ρ lo lo' → OptRel ρ hi hi' → OptRel ρ mx mx' →
      (Instr.sliceBounds true len (capOr c cap) lo' hi' mx').run P w = .ok (l, m, capOr c' (capOr c cap)) w ∧ l ≤ m ∧ m ≤ capOr c' (capOr c cap) ∧ capOr c' (capOr c cap) ≤ capOr c cap ∧ (l < capOr c' (capOr c cap) ∨ l = 0) ∧ (c' = none → c = none)) := by
  unfold sliceBoundsA at e
  split at e
  · cases e
  rename_i c1 h1 hmx
  split at e
  · cases e
  rename_i m1 h2 hhi
  split at e
  · cases e
  rename_i l1 h3 hlo
  split at e
  · rename_i h4 hck
    cases e
    obtain ⟨q1, o1⟩ := boundMax_qt hmx
    obtain ⟨q2, o2⟩ := boundHigh_qt hhi
    obtain ⟨q3, o3⟩ := boundLow_qt hlo
    obtain ⟨q4, o4⟩ := check_qt hck
    refine ⟨q1.trans (q2.trans (q3.trans q4)), fun ho cap hlen hcap lo' hi' mx' hlo' hhi' hmx' => ?_⟩
    have ho3 : ∀ p ∈ h3.ob, p := fun p hp => ho p (q4.ob p hp)
    have ho2 : ∀ p ∈ h2.ob, p := fun p hp => ho3 p (q3.ob p hp)
    have ho1 : ∀ p ∈ h1.ob, p := fun p hp => ho2 p (q2.ob p hp)
    have k1 := o1 ho1
    have k2 := o2 ho2
    have k3 := o3 ho3
    have k4 := o4 ho
    have hcle : capOr c len ≤ capOr c cap := by cases c <;> simp [capOr] at hlen ⊢; exact hlen
    have hk4 : l < capOr c' (capOr c cap) ∨ l = 0 := by
      simp [Nat.blt_eq] at k4
      rcases k4 with k4 | k4
      · left
        refine Nat.lt_of_lt_of_le k4 ?_
        cases c' with
        | some n => simp [capOr]
        | none => simpa [capOr] using hlen
      · exact .inr k4
    have fmax : ∀ v, mx' = some v → (Instr.sliceBound v (capOr c cap) .slice3Acap).run P w = .ok (capOr c' (capOr c cap)) w := by
      rintro v rfl
      rcases k1 with ⟨rfl, rfl⟩ | ⟨y, n, rfl, rfl, hn, hk⟩
      · simp [OptRel] at hmx'
      · exact bound_run ⟨hn, hk⟩ hmx' _ hcle
    have fmax0 : mx' = none → capOr c' (capOr c cap) = capOr c cap := by
      rintro rfl
      rcases k1 with ⟨rfl, rfl⟩ | ⟨y, n, rfl, rfl, hn, hk⟩
      · cases c' <;> simp [capOr]
      · simp [OptRel] at hmx'
    have hmax2 : capOr c' (capOr c cap) ≤ capOr c cap := by
      rcases k1 with ⟨rfl, rfl⟩ | ⟨y, n, rfl, rfl, hn, hk⟩
      · cases c' <;> simp [capOr]
      · simpa [capOr] using Nat.le_trans hn hcle
    have hcle2 : capOr c' len ≤ capOr c' (capOr c cap) := by
      cases c' with
      | some n => simp [capOr]
      | none => simpa [capOr] using hlen
    have hmle : m ≤ capOr c' (capOr c cap) := by
      rcases k2 with ⟨rfl, rfl, rfl⟩ | ⟨y, rfl, hm, hk⟩
      · rcases k1 with ⟨_, rfl⟩ | ⟨y, n, h, _⟩
        · cases c' with
          | some n => simpa [capOr] using hlen
          | none => simpa [capOr] using hlen
        · cases h
      · exact Nat.le_trans hm hcle2
    have hlm : l ≤ m := by
      rcases k3 with ⟨_, rfl⟩ | ⟨y, _, hl, _⟩
      · exact Nat.zero_le _
      · exact hl
    refine ⟨?_, hlm, hmle, hmax2, hk4, ?_⟩
    · have fhigh : ∀ v code, hi' = some v → (Instr.sliceBound v (capOr c' (capOr c cap)) code).run P w = .ok m w := by
        rintro v code rfl
        rcases k2 with ⟨rfl, rfl, rfl⟩ | ⟨y, rfl, hm, hk⟩
        · simp [OptRel] at hhi'
        · exact bound_run ⟨hm, hk⟩ hhi' _ hcle2
      have fhigh0 : hi' = none → mx' = none ∧ m = len := by
        rintro rfl
        rcases k2 with ⟨rfl, rfl, rfl⟩ | ⟨y, rfl, hm, hk⟩
        · cases mx' with
          | none => exact ⟨rfl, rfl⟩
          | some v => simp [OptRel] at hmx'
        · simp [OptRel] at hhi'
      have flow : ∀ v code, lo' = some v → (Instr.sliceBound v m code).run P w = .ok l w := by
        rintro v code rfl
        rcases k3 with ⟨rfl, rfl⟩ | ⟨y, rfl, hl, hk⟩
        · simp [OptRel] at hlo'
        · exact bound_run ⟨hl, hk⟩ hlo' _ (Nat.le_refl _)
      have flow0 : lo' = none → l = 0 := by
        rintro rfl
        rcases k3 with ⟨rfl, rfl⟩ | ⟨y, rfl, hl, hk⟩
        · rfl
        · simp [OptRel] at hlo'
      clear o1 o2 o3 o4 k1 k2 k3 k4 hlo hmx hhi hck ho ho1 ho2 ho3 hlo' hhi' hmx' q1 q2 q3 q4
      cases mx' with
      | none =>
        have e1 := fmax0 rfl
        cases hi' with
        | none =>
          obtain ⟨_, rfl⟩ := fhigh0 rfl
          cases lo' with
          | none => have := flow0 rfl; subst this; simp [Instr.sliceBounds, e1]
          | some v => simp [Instr.sliceBounds, flow v _ rfl, e1]
        | some v2 =>
          have f2 := fun code => fhigh v2 code rfl
          rw [e1] at f2
          cases lo' with
          | none => have := flow0 rfl; subst this; simp [Instr.sliceBounds, f2, e1]
          | some v => simp [Instr.sliceBounds, flow v _ rfl, f2, e1]
      | some v3 =>
        have f3 := fmax v3 rfl
        cases hi' with
        | none => have := (fhigh0 rfl).1; cases this
        | some v2 =>
          have f2 := fun code => fhigh v2 code rfl
          cases lo' with
          | none => have := flow0 rfl; subst this; simp [Instr.sliceBounds, f2, f3]
          | some v => simp [Instr.sliceBounds, flow v _ rfl, f2, f3]
    · intro hc
      rcases k1 with ⟨_, h⟩ | ⟨y, n, _, h, _⟩
      · rw [← h]; exact hc
      · rw [hc] at h; cases h
  · cases e

theorem slice_ok {P : Program} {ρ : Ren} {w : World} {t : TypeId} {v r : AV} {lo hi mx : Option AV} {h h' : Hp} (e : sliceA P t v lo hi mx h = some (r, h')) :
    Qt h h' ∧ r ≠ .top ∧ ((∀ p ∈ h'.ob, p) → ∀ x lo' hi' mx', relS ρ v x → OptRel ρ lo lo' → OptRel ρ hi hi' → OptRel ρ mx mx' → ∃ z, (Instr.sliceAt t x lo' hi' mx').run P w = .ok z w ∧ den ρ r = some z) := by
  unfold sliceA at e
  split at e
  · rename_i el hu
    have hsl : ∀ x lo' hi' mx', (Instr.sliceAt t x lo' hi' mx').run P w = (Instr.slice t x lo' hi' mx').run P w := by
      intro x lo' hi' mx'
      simp [Instr.sliceAt, run_underlying' hu]
    split at e
    · split at e
      · rename_i l m c' h1 n hb hn
        cases e
        obtain ⟨q, o⟩ := sliceBounds_ok (P := P) (ρ := ρ) (w := w) hb
        refine ⟨q, by simp, fun ho x lo' hi' mx' hx hlo hhi hmx => ?_⟩
        have := relS_den hx (by simp)
        simp [den] at this; subst this
        obtain ⟨hrun, hlm, hmc, hcc, hl0, hcn⟩ := o ho 0 (by simp [capOr]) (by simp [capOr]) lo' hi' mx' hlo hhi hmx
        simp only [capOr] at hrun hmc hcc hl0
        have h0 : capOr c' 0 = 0 := by simp only [capOr]; omega
        simp only [capOr] at h0
        rw [h0] at hrun hmc
        have hm0 : m = 0 := by omega
        have hl0 : l = 0 := by omega
        subst hm0; subst hl0
        refine ⟨.slice none 0 0, ?_, by simp [den]⟩
        rw [hsl]
        simp only [Instr.slice, Sem.run_bind, run_underlying' hu, Result.andThen_ok, hrun, run_sizeOf hn, Sem.run_pure, h0]
        simp
      · cases e
    · rename_i wd b off len c
      split at e
      · rename_i l m c' h1 n hb hn
        split at e
        · rename_i hw
          cases e
          obtain ⟨q, o⟩ := sliceBounds_ok (P := P) (ρ := ρ) (w := w) hb
          refine ⟨q, by simp, fun ho x lo' hi' mx' hx hlo hhi hmx => ?_⟩
          have hw := Nat.eq_of_beq_eq_true hw
          obtain ⟨L, hL, hwd, hnil, hcl, hcap, rfl⟩ := den_xs (relS_den hx (by simp))
          obtain ⟨hrun, hlm, hmc, hcc, hl0, hcn⟩ := o ho (L.cap - off) hcl (by omega) lo' hi' mx' hlo hhi hmx
          refine ⟨.slice (some ⟨L.blk, L.base + (off + l) * L.wid, none⟩) (m - l) (capOr c' (capOr c (L.cap - off)) - l), ?_, ?_⟩
          · rw [hsl]
            simp only [Instr.slice, Sem.run_bind, run_underlying' hu, Result.andThen_ok, hrun, run_sizeOf hn, Sem.run_pure]
            congr 2
            split
            · rename_i heq
              have : l = 0 := by omega
              subst this; simp
            · simp [addr_add, hw, ← hwd, Nat.add_mul, Nat.add_assoc]
          · simp only [den, hL, hnil, Loc.slice, hwd]
            have hcapl : capOr (lessC c' l) (L.cap - (off + l)) = capOr c' (capOr c (L.cap - off)) - l := by
              cases c' with
              | some n => simp [lessC, capOr]
              | none => have := hcn rfl; subst this; simp [lessC, capOr]; omega
            rw [hcapl]
            simp
            omega
        · cases e
      · cases e
    · rename_i wd b off len c
      split at e
      · rename_i l m c' h1 n hb hn
        split at e
        · rename_i hw
          cases e
          obtain ⟨q, o⟩ := sliceBounds_ok (P := P) (ρ := ρ) (w := w) hb
          refine ⟨q, by simp, fun ho x lo' hi' mx' hx hlo hhi hmx => ?_⟩
          have hw := Nat.eq_of_beq_eq_true hw
          obtain ⟨L, hL, hwd, ⟨hnil, rfl, rfl, hc0, rfl⟩ | ⟨hnil, hcl, hcap, rfl⟩⟩ := den_ss (relS_den hx (by simp))
          · obtain ⟨hrun, hlm, hmc, hcc, hl0, hcn⟩ := o ho 0 (by omega) (by omega) lo' hi' mx' hlo hhi hmx
            rw [hc0] at hrun hmc hcc hl0
            have h0 : capOr c' 0 = 0 := by omega
            have hm0 : m = 0 := by omega
            have hl0 : l = 0 := by omega
            subst hm0; subst hl0
            refine ⟨.slice none 0 0, ?_, ?_⟩
            · rw [hsl]
              simp only [Instr.slice, Sem.run_bind, run_underlying' hu, Result.andThen_ok, hrun, run_sizeOf hn, Sem.run_pure, h0]
              simp
            · simp only [den, hL, hnil, Loc.slice, hwd]
              have : capOr (lessC c' 0) 0 = 0 := by cases c' <;> simp [lessC, capOr] at h0 ⊢; exact h0
              simp [this]
          · obtain ⟨hrun, hlm, hmc, hcc, hl0, hcn⟩ := o ho (L.cap - off) hcl (by omega) lo' hi' mx' hlo hhi hmx
            refine ⟨.slice (some ⟨L.blk, L.base + (off + l) * L.wid, none⟩) (m - l) (capOr c' (capOr c (L.cap - off)) - l), ?_, ?_⟩
            · rw [hsl]
              simp only [Instr.slice, Sem.run_bind, run_underlying' hu, Result.andThen_ok, hrun, run_sizeOf hn, Sem.run_pure]
              congr 2
              split
              · rename_i heq
                have : l = 0 := by omega
                subst this; simp
              · simp [addr_add, hw, ← hwd, Nat.add_mul, Nat.add_assoc]
            · simp only [den, hL, hnil, Loc.slice, hwd]
              have hcapl : capOr (lessC c' l) (L.cap - (off + l)) = capOr c' (capOr c (L.cap - off)) - l := by
                cases c' with
                | some n => simp [lessC, capOr]
                | none => have := hcn rfl; subst this; simp [lessC, capOr]; omega
              rw [hcapl]
              simp
              omega
        · cases e
      · cases e
    · cases e
  · cases e


theorem sliceE_cases {P : Program} {t : TypeId} {v : AV} {lo hi mx : Option AV} {h : Hp} {x : AV × Hp} (e : sliceE P t v lo hi mx h = some x) :
    sliceA P t v lo hi mx h = some x ∨ ∃ l r, lo = some l ∧ hi = none ∧ mx = none ∧ (sliceTail P t v l { h with hints := r } = some x ∨ sliceTake P t v l { h with hints := r } = some x) := by
  unfold sliceE at e
  split at e
  · split at e
    · split at e
      · exact .inr ⟨_, _, rfl, rfl, rfl, .inl e⟩
      · exact .inr ⟨_, _, rfl, rfl, rfl, .inr e⟩
      · exact .inl e
    · exact .inl e
  · exact .inl e
theorem sliceTail_ok {P : Program} {ρ : Ren} {w : World} {t : TypeId} {v lo r : AV} {h h' : Hp} (e : sliceTail P t v lo h = some (r, h')) :
    Mono h h' ∧ ((∀ p ∈ h'.ob, p) → Fresh ρ h.nxt h.hi → HeapRep P ρ h.heap w → ∀ x l', relS ρ v x → relS ρ lo l' → ∃ ρ' z, (Instr.sliceAt t x (some l') none none).run P w = .ok z w ∧ den ρ' r = some z ∧ Step P ρ h w ρ' h' w) := by
  unfold sliceTail at e
  split at e
  · rename_i el kk cc n hu hlo
    split at e
    · rename_i wd b off len c
      split at e
      · rename_i s hs
        split at e
        · rename_i hw
          split at e
          · rename_i h1 hn
            split at e
            · rename_i hlt
              cases e
              obtain ⟨q, o⟩ := need_qt hn
              have hlt : h1.nxt < h1.hi := by simpa [Nat.blt_eq] using hlt
              refine ⟨⟨q.ob, by show h.nxt ≤ h1.nxt + 1; rw [q.nxt]; omega, q.hi, by intro k hk; show k ∈ h1.wr; rw [q.wr]; exact hk⟩, fun ho hf hr x l' hx hl => ?_⟩
              have hw := Nat.eq_of_beq_eq_true hw
              subst hw
              have hb := o ho
              simp only [Bool.and_eq_true, decide_eq_true_eq] at hb
              obtain ⟨hb1, hb2⟩ := hb
              have hb1 := Nat.eq_of_beq_eq_true hb1
              obtain ⟨d1, d2⟩ := asI_den (ρ := ρ) hlo
              have hl0 := relS_den hl d2
              rw [d1] at hl0; cases hl0
              have hsl : ∀ x lo' hi' mx', (Instr.sliceAt t x lo' hi' mx').run P w = (Instr.slice t x lo' hi' mx').run P w := by
                intro x lo' hi' mx'
                simp [Instr.sliceAt, run_underlying' hu]
              have hfr : ρ h1.nxt = none := hf _ (by rw [q.nxt]; exact Nat.le_refl _) (by rw [← q.hi]; exact hlt)
              have bnd : ∀ code, (Instr.sliceBound (.int kk n) len code).run P w = .ok len w := by
                intro code
                have hn : n = (len : Int) := by omega
                rw [hn]
                simp [Instr.sliceBound, asIntOf]
              have step : ∀ L : Loc, Step P ρ h w (ρ.set h1.nxt L) { h1 with nxt := h1.nxt + 1 } w := by
                intro L
                have hle := Ren.le_set (l := L) hfr
                refine ⟨hle, ?_, ?_, Fr.refl _ _, ?_⟩
                · intro k l1 e1 e2
                  by_cases hm : k = h1.nxt
                  · subst hm; exact ⟨by rw [q.nxt]; exact Nat.le_refl _, by simp⟩
                  · simp [Ren.set, hm, e1] at e2
                · show HeapRep P _ h1.heap w
                  rw [q.heap]
                  refine ⟨fun k o1 g1 => ?_, fun k m o1 o2 l1 l2 g1 g2 hne hro k1 k2 c1 c2 => ?_⟩
                  · obtain ⟨l1, k1, k2⟩ := hr.1 k o1 g1
                    exact ⟨l1, hle _ _ k1, k2.keep hle (fun _ => rfl)⟩
                  · obtain ⟨l1', k1', _⟩ := hr.1 k o1 g1
                    obtain ⟨l2', k2', _⟩ := hr.1 m o2 g2
                    rw [hle _ _ k1'] at k1; cases k1
                    rw [hle _ _ k2'] at k2; cases k2
                    exact hr.2 k m o1 o2 _ _ g1 g2 hne hro k1' k2' c1 c2
                · intro k o1 l1 g1 k1 c1 _
                  have g1 : get h1.heap k = some o1 := g1
                  rw [q.heap] at g1
                  obtain ⟨l1', k1', _⟩ := hr.1 k o1 g1
                  rw [hle _ _ k1'] at k1; cases k1
                  exact ⟨k, o1, _, g1, rfl, k1', c1, rfl, .inl rfl⟩
              obtain ⟨L, hL, hwd, ⟨hnil, h0, hlen0, hc0, rfl⟩ | ⟨hnil, hcl, hcap, rfl⟩⟩ := den_ss (relS_den hx (by simp))
              · subst hlen0
                refine ⟨ρ.set h1.nxt ⟨0, 0, s, 0, true⟩, .slice none 0 0, ?_, by simp [den, Ren.set_same, Loc.slice, capOr], step _⟩
                rw [hsl]
                simp [Instr.slice, Sem.run_bind, run_underlying' hu, Result.andThen_ok, Instr.sliceBounds, bnd, run_sizeOf hs]
              · generalize hcp : capOr c (L.cap - off) = cp at hcl hcap ⊢
                by_cases hz : cp = len
                · subst hz
                  refine ⟨ρ.set h1.nxt ⟨L.blk, L.base + off * L.wid, s, 0, false⟩, .slice (some ⟨L.blk, L.base + off * L.wid, none⟩) 0 0, ?_, by simp [den, Ren.set_same, Loc.slice, capOr], step _⟩
                  rw [hsl]
                  simp [Instr.slice, Sem.run_bind, run_underlying' hu, Result.andThen_ok, Instr.sliceBounds, bnd, run_sizeOf hs]
                · refine ⟨ρ.set h1.nxt ⟨L.blk, L.base + off * L.wid + len * s, s, cp - len, false⟩, .slice (some ⟨L.blk, L.base + off * L.wid + len * s, none⟩) 0 (cp - len), ?_, by simp [den, Ren.set_same, Loc.slice, capOr], step _⟩
                  rw [hsl]
                  simp [Instr.slice, Sem.run_bind, run_underlying' hu, Result.andThen_ok, Instr.sliceBounds, bnd, run_sizeOf hs, hz, addr_add]
            · cases e
          · cases e
        · cases e
      · cases e
    · cases e
  · cases e

theorem get_delT {α : Type} : ∀ (l : List (Nat × α)) (b m : Nat), get (del l b) m = if m = b then none else get l m
  | [], b, m => by simp [del, get]
  | (k, y) :: r, b, m => by
    have ih := get_delT r b m
    simp only [del]
    by_cases hk : k = b
    · subst hk
      simp only [Nat.beq_refl]
      rw [ih]
      by_cases hm : m = k
      · rw [if_pos hm, if_pos hm]
      · rw [if_neg hm, if_neg hm]
        have : Nat.beq k m = false := by rw [← Bool.not_eq_true, Nat.beq_eq]; exact fun e => hm e.symm
        simp [get, this]
    · have hb : Nat.beq k b = false := by rw [← Bool.not_eq_true, Nat.beq_eq]; exact hk
      simp only [hb, get]
      rw [ih]
      cases e : Nat.beq k m with
      | true =>
        have e' := Nat.eq_of_beq_eq_true e
        subst e'
        simp [hk]
      | false => simp
theorem sliceTake_ok {P : Program} {ρ : Ren} {w : World} {t : TypeId} {v lo r : AV} {h h' : Hp} (e : sliceTake P t v lo h = some (r, h')) :
    Mono h h' ∧ ((∀ p ∈ h'.ob, p) → Fresh ρ h.nxt h.hi → HeapRep P ρ h.heap w → ∀ x l', relS ρ v x → relS ρ lo l' → ∃ ρ' z, (Instr.sliceAt t x (some l') none none).run P w = .ok z w ∧ den ρ' r = some z ∧ Step P ρ h w ρ' h' w) := by
  unfold sliceTake at e
  split at e
  case h_2 => cases e
  rename_i el kk cc n hu hlo
  split at e
  case h_2 => cases e
  rename_i wd b off len c
  split at e
  case h_2 => cases e
  rename_i s wd' sh ro m f hs hg
  split at e
  case h_2 => cases e
  rename_i hw hw'
  split at e
  case h_2 => cases e
  rename_i h1 hn
  split at e
  case h_2 => cases e
  rename_i hlt
  cases e
  obtain ⟨q, o⟩ := need_qt hn
  have hlt : h1.nxt < h1.hi := by simpa [Nat.blt_eq] using hlt
  refine ⟨⟨q.ob, by show h.nxt ≤ h1.nxt + 1; rw [q.nxt]; omega, q.hi, by intro k hk; show k ∈ b :: h1.wr; rw [q.wr]; exact List.mem_cons_of_mem _ hk⟩, fun ho hf hr x l' hx hl => ?_⟩
  have hw := Nat.eq_of_beq_eq_true hw
  subst hw
  have hw' := Nat.eq_of_beq_eq_true hw'
  subst hw'
  have hb := o ho
  simp only [Bool.and_eq_true, decide_eq_true_eq, Nat.ble_eq] at hb
  obtain ⟨hb1, hb3, hb2⟩ := hb
  obtain ⟨d1, d2⟩ := asI_den (ρ := ρ) hlo
  have hl0 := relS_den hl d2
  rw [d1] at hl0; cases hl0
  have hsl : ∀ x lo' hi' mx', (Instr.sliceAt t x lo' hi' mx').run P w = (Instr.slice t x lo' hi' mx').run P w := by
    intro x lo' hi' mx'
    simp [Instr.sliceAt, run_underlying' hu]
  have hfr : ρ h1.nxt = none := hf _ (by rw [q.nxt]; exact Nat.le_refl _) (by rw [← q.hi]; exact hlt)
  obtain ⟨k, rfl⟩ : ∃ k : Nat, n = (k : Int) := ⟨n.toNat, (Int.toNat_of_nonneg hb2).symm⟩
  simp only [Int.toNat_natCast] at hb1 ⊢
  have bnd : ∀ code, (Instr.sliceBound (.int kk (k : Int)) len code).run P w = .ok k w := by
    intro code
    simp [Instr.sliceBound, asIntOf]
    omega
  have bnd2 : ∀ code M, len ≤ M → (Instr.sliceBound (.int kk (k : Int)) M code).run P w = .ok k w := by
    intro code M hM
    simp [Instr.sliceBound, asIntOf]
    omega
  obtain ⟨L, hL, hwd, hcase⟩ := den_ss (relS_den hx (by simp))
  obtain ⟨Lb, hLb, hob⟩ := hr.1 b _ hg
  rw [hL] at hLb; cases hLb
  have step : ∀ L' : Loc, L'.wid = wd' → (L'.isnil = true → L'.cap = 0) → len - k ≤ L'.cap → (L'.cap ≠ 0 → L.cap ≠ 0 ∧ L'.blk = L.blk ∧ L'.base = L.base + (off + k) * wd' ∧ off + k + L'.cap ≤ L.cap) →
      Step P ρ h w (ρ.set h1.nxt L') { h1 with nxt := h1.nxt + 1, heap := (h1.nxt, .arr wd' sh false (len - k) (fun i => f (off + k + i))) :: del h1.heap b, wr := b :: h1.wr } w := by
    intro L' a1 a2 a3 a4
    have hle := Ren.le_set (l := L') hfr
    have old : ∀ g o1, get ((h1.nxt, AO.arr wd' sh false (len - k) (fun i => f (off + k + i))) :: del h1.heap b) g = some o1 → (g = h1.nxt ∧ o1 = .arr wd' sh false (len - k) (fun i => f (off + k + i))) ∨ (g ≠ h1.nxt ∧ g ≠ b ∧ get h.heap g = some o1) := by
      intro g o1 hg1
      simp only [get] at hg1
      split at hg1
      · rename_i hbq; cases hg1; exact .inl ⟨(Nat.eq_of_beq_eq_true hbq).symm, rfl⟩
      · rename_i hbq
        rw [get_delT] at hg1
        split at hg1
        · cases hg1
        · rename_i hgb
          rw [q.heap] at hg1
          exact .inr ⟨fun e => by subst e; simp at hbq, hgb, hg1⟩
    refine ⟨hle, ?_, ⟨?_, ?_⟩, Fr.refl _ _, ?_⟩
    · intro g l1 e1 e2
      by_cases hm : g = h1.nxt
      · subst hm; exact ⟨by rw [q.nxt]; exact Nat.le_refl _, by simp⟩
      · simp [Ren.set, hm, e1] at e2
    · intro g o1 g1
      rcases old g o1 g1 with ⟨rfl, rfl⟩ | ⟨_, _, g2⟩
      · refine ⟨L', Ren.set_same _ _ _, a1, ?_, a3, a2, fun hc => ?_⟩
        · exact hob.2.1
        · obtain ⟨b1, b2, b3, b4⟩ := a4 hc
          obtain ⟨_, _, _, _, h5⟩ := hob
          obtain ⟨c, t, fr, hb, hf, hc2, hv⟩ := h5 b1
          refine ⟨c, t, fr, by rw [b2]; exact hb, hf, ?_, fun i hi j kd hj => ?_⟩
          · rw [b3]
            have := Nat.mul_le_mul_right wd' b4
            rw [Nat.add_mul] at this
            omega
          · obtain ⟨y0, y, hy, hd⟩ := hv (off + k + i) (by omega) j kd hj
            refine ⟨y0, y, ?_, den_mono hle _ _ hd⟩
            rw [b3, show L.base + (off + k) * wd' + i * wd' + j = L.base + (off + k + i) * wd' + j by rw [Nat.add_mul (off + k) i]; omega]
            exact hy
      · obtain ⟨l1, k1, k2⟩ := hr.1 g o1 g2
        exact ⟨l1, hle _ _ k1, k2.keep hle (fun _ => rfl)⟩
    · intro g g' o1 o2 l1 l2 e1 e2 hne hro k1 k2 c1 c2
      rcases old g o1 e1 with ⟨rfl, rfl⟩ | ⟨n1, n2, g2⟩
      · rcases old g' o2 e2 with ⟨rfl, rfl⟩ | ⟨m1, m2, m3⟩
        · exact (hne rfl).elim
        · rw [Ren.set_same] at k1; cases k1
          obtain ⟨l2', k2', _⟩ := hr.1 g' o2 m3
          rw [hle _ _ k2'] at k2; cases k2
          obtain ⟨b1, b2, _⟩ := a4 c1
          rw [b2]
          exact hr.2 b g' _ _ _ _ hg m3 (fun e => m2 e.symm) (by simp [AO.ro]) hL k2' b1 c2
      · obtain ⟨l1', k1', _⟩ := hr.1 g o1 g2
        rw [hle _ _ k1'] at k1; cases k1
        rcases old g' o2 e2 with ⟨rfl, rfl⟩ | ⟨m1, m2, m3⟩
        · rw [Ren.set_same] at k2; cases k2
          obtain ⟨b1, b2, _⟩ := a4 c2
          rw [b2]
          exact hr.2 g b _ _ _ _ g2 hg n2 (by simp [AO.ro]) k1' hL c1 b1
        · obtain ⟨l2', k2', _⟩ := hr.1 g' o2 m3
          rw [hle _ _ k2'] at k2; cases k2
          exact hr.2 g g' o1 o2 _ _ g2 m3 hne hro k1' k2' c1 c2
    · intro g o1 l1 g1 k1 c1 _
      rcases old g o1 g1 with ⟨rfl, rfl⟩ | ⟨n1, n2, g2⟩
      · rw [Ren.set_same] at k1; cases k1
        obtain ⟨b1, b2, _⟩ := a4 c1
        exact ⟨b, _, L, hg, rfl, hL, b1, b2.symm, .inr (List.mem_cons_self ..)⟩
      · obtain ⟨l1', k1', _⟩ := hr.1 g o1 g2
        rw [hle _ _ k1'] at k1; cases k1
        exact ⟨g, o1, _, g2, rfl, k1', c1, rfl, .inl rfl⟩
  rcases hcase with ⟨hnil, h0, hlen0, hc0, rfl⟩ | ⟨hnil, hcl, hcap, rfl⟩
  · subst hlen0
    obtain rfl : k = 0 := by omega
    have bnd0 : ∀ code, (Instr.sliceBound (.int kk 0) 0 code).run P w = .ok 0 w := by
      intro code
      simp [Instr.sliceBound, asIntOf]
    refine ⟨ρ.set h1.nxt ⟨0, 0, wd', 0, true⟩, .slice none 0 0, ?_, by simp [den, Ren.set_same, Loc.slice, capOr], step _ rfl (fun _ => rfl) (Nat.le_refl _) (fun hc => absurd rfl hc)⟩
    rw [hsl]
    simp [Instr.slice, Sem.run_bind, run_underlying' hu, Result.andThen_ok, Instr.sliceBounds, bnd, bnd0, run_sizeOf hs]
  · simp only [capOr] at hcl hcap ⊢
    by_cases hz : L.cap - off = k
    · have hlk : len = k := by omega
      refine ⟨ρ.set h1.nxt ⟨L.blk, L.base + off * L.wid, wd', 0, false⟩, .slice (some ⟨L.blk, L.base + off * L.wid, none⟩) 0 0, ?_, ?_, step _ rfl (fun h => by cases h) (by show len - k ≤ 0; omega) (fun hc => absurd rfl hc)⟩
      · rw [hsl]
        subst hlk
        simp [Instr.slice, Sem.run_bind, run_underlying' hu, Result.andThen_ok, Instr.sliceBounds, bnd, run_sizeOf hs, hz]
      · simp [den, Ren.set_same, Loc.slice, capOr, hlk]
    · refine ⟨ρ.set h1.nxt ⟨L.blk, L.base + (off + k) * wd', wd', L.cap - off - k, false⟩, .slice (some ⟨L.blk, L.base + off * L.wid + k * wd', none⟩) (len - k) (L.cap - off - k), ?_, ?_, step _ rfl (fun h => by cases h) (by show len - k ≤ L.cap - off - k; omega) (fun hc => ⟨by omega, rfl, rfl, by show off + k + (L.cap - off - k) ≤ L.cap; omega⟩)⟩
      · rw [hsl]
        simp [Instr.slice, Sem.run_bind, run_underlying' hu, Result.andThen_ok, Instr.sliceBounds, bnd, run_sizeOf hs, hz, addr_add]
        try omega
      · simp [den, Ren.set_same, Loc.slice, capOr]
        refine ⟨by omega, ?_⟩
        rw [hwd, Nat.add_mul]; omega

theorem binE0_ok {P : Program} {ρ : Ren} {w : World} {op : BinOp} {t : TypeId} {x y r : AV} {h h' : Hp} (e : binE0 P op t x y h = some (r, h')) :
    Qt h h' ∧ r ≠ .top ∧ ((∀ p ∈ h'.ob, p) → HeapRep P ρ h.heap w → ∀ (ox oy : Operand) X Y, relS ρ x X → relS ρ y Y → ∃ z, (do eqGuard op t ox oy X Y; binOp op t X Y : Sem Value).run P w = .ok z w ∧ den ρ r = some z) := by
  unfold binE0 at e
  split at e
  · rename_i wd b off len c
    split at e
    · rename_i h1 hn
      obtain ⟨q1, n1⟩ := need_qt hn
      obtain ⟨q2, ht, o⟩ := bin_ok (P := P) (ρ := ρ) (w := w) e
      refine ⟨q1.trans q2, ht, fun ho hr ox oy X Y hx hy => o ho (by rw [q1.heap]; exact hr) ox oy X Y ?_ hy⟩
      have hlen : 0 < len := by simpa [Nat.blt_eq] using n1 (fun p hp => ho p (q2.mono.ob p hp))
      rcases hx with hx | hx
      · cases hx
      refine .inr ?_
      simp only [den] at hx ⊢
      split at hx
      · rename_i l hl
        cases hnil : l.isnil with
        | false => simpa [hnil] using hx
        | true =>
          simp only [Loc.slice, hnil] at hx
          split at hx
          · split at hx
            · rename_i hc; omega
            · cases hx
          · cases hx
      · cases hx
    · cases e
  · exact bin_ok e

theorem binE_ok {P : Program} {ρ : Ren} {w : World} {op : BinOp} {t : TypeId} {x y r : AV} {h h' : Hp} (e : binE P op t x y h = some (r, h')) :
    Qt h h' ∧ r ≠ .top ∧ ((∀ p ∈ h'.ob, p) → HeapRep P ρ h.heap w → ∀ (ox oy : Operand) X Y, relS ρ x X → relS ρ y Y → ∃ z, (do eqGuard op t ox oy X Y; binOp op t X Y : Sem Value).run P w = .ok z w ∧ den ρ r = some z) := by
  unfold binE at e
  cases hb : binE0 P op t x y h with
  | none =>
    rw [hb] at e
    unfold litR at e
    split at e
    · rename_i q; cases q
    · cases e
  | some y0 =>
    obtain ⟨r0, h0⟩ := y0
    obtain ⟨q, ht, o⟩ := binE0_ok (ρ := ρ) (w := w) hb
    rw [hb] at e
    unfold litR at e
    split at e
    · rename_i k n h1 q1
      cases q1
      split at e
      · rename_i c rest hh
        cases e
        refine ⟨⟨q.heap, q.nxt, q.hi, q.wr, fun p hp => List.mem_cons_of_mem _ (q.ob p hp)⟩, by simp, fun ho hr ox oy X Y hX hY => ?_⟩
        obtain ⟨z, h1, h2⟩ := o (fun p hp => ho p (List.mem_cons_of_mem _ hp)) hr ox oy X Y hX hY
        refine ⟨z, h1, ?_⟩
        have := ho _ (List.mem_cons_self ..)
        rw [← h2, this]; rfl
      · split at e
        · rename_i c rest hh
          cases e
          refine ⟨⟨q.heap, q.nxt, q.hi, q.wr, fun p hp => List.mem_cons_of_mem _ (q.ob p hp)⟩, by simp, fun ho hr ox oy X Y hX hY => ?_⟩
          obtain ⟨z, h1, h2⟩ := o (fun p hp => ho p (List.mem_cons_of_mem _ hp)) hr ox oy X Y hX hY
          refine ⟨z, h1, ?_⟩
          have := ho _ (List.mem_cons_self ..)
          rw [← h2, this]; rfl
        · cases e; exact ⟨q, ht, o⟩
      · cases e; exact ⟨q, ht, o⟩
    · cases e; exact ⟨q, ht, o⟩
end Go.Ev

/-
  Maps: the soundness of the evaluator, seventh part.
-/
set_option linter.unusedSimpArgs false
set_option linter.unusedVariables false
namespace Go.Ev

/-! ### keys -/
theorem keyInt_den {ρ : Ren} {k : CK} {v : AV} {c : Bool} {n : Int} {x : Value} (e : keyInt k v = some (c, n)) (hx : den ρ v = some x) : x = cellKey k n ∧ (k = .bool → n = 0 ∨ n = 1) ∧ k ≠ .val := by
  unfold keyInt at e
  split at e
  · split at e
    · rename_i hk; cases e; have := of_decide_eq_true hk; subst this
      simp [den] at hx; subst hx; exact ⟨rfl, by simp, by simp⟩
    · cases e
  · split at e
    · rename_i hk; cases e; have := of_decide_eq_true hk; subst this
      simp [den] at hx; subst hx; exact ⟨rfl, by simp, by simp⟩
    · cases e
  · rename_i b; cases e; simp [den] at hx; subst hx
    cases b <;> simp [cellKey]
  · rename_i b; cases e; simp [den] at hx; subst hx
    cases b <;> simp [cellKey]
  · cases e

theorem keyInts_den {ρ : Ren} : ∀ (ks : List CK) (vs : List AV) (l : List Int) (xs : List Value), keyInts ks vs = some l → denL ρ vs = some xs → xs = keyCells ks l ∧ keyWf ks l
  | [], [], l, xs, e, h => by simp [keyInts] at e; subst e; simp [denL] at h; subst h; exact ⟨rfl, trivial⟩
  | [], _ :: _, l, xs, e, h => by simp [keyInts] at e
  | _ :: _, [], l, xs, e, h => by simp [keyInts] at e
  | k :: ks, v :: vs, l, xs, e, h => by
    simp only [keyInts] at e
    split at e
    · rename_i c n l' hk hl
      cases e
      simp only [denL] at h
      cases hv : den ρ v with
      | none => simp [hv] at h
      | some v' => cases hr : denL ρ vs with
        | none => simp [hv, hr] at h
        | some r' =>
          rw [hv, hr] at h; cases h
          obtain ⟨a, b, c⟩ := keyInt_den hk hv
          obtain ⟨a', b'⟩ := keyInts_den ks vs l' r' hl hr
          refine ⟨by simp [keyCells, a, a'], ?_⟩
          cases k with
          | int k => exact b'
          | bool => exact ⟨b rfl, b'⟩
          | val => exact absurd rfl c
    · cases e

theorem keyCells_length : ∀ (ks : List CK) (l : List Int), keyWf ks l → (keyCells ks l).length = ks.length ∧ l.length = ks.length
  | [], [], _ => ⟨rfl, rfl⟩
  | [], _ :: _, h => by simp [keyWf] at h
  | .int _ :: _, [], h => by simp [keyWf] at h
  | .bool :: _, [], h => by simp [keyWf] at h
  | .val :: _, [], h => by simp [keyWf] at h
  | .int k :: ks, n :: ns, h => by have := keyCells_length ks ns h; simp [keyCells, this]
  | .bool :: ks, n :: ns, h => by have := keyCells_length ks ns h.2; simp [keyCells, this]
  | .val :: ks, n :: ns, h => by simp [keyWf] at h

/-- What a map's type says. -/
structure MapTy (P : Program) (t : TypeId) (ks : List CK) (agg : Bool) (vk : IntKind) (kt et : TypeId) : Prop where
  map : P.underlying t = some (.map kt et)
  elem : P.underlying et = some (.int vk)
  key : (∃ kk, P.underlying kt = some (.int kk) ∧ ks = [.int kk] ∧ agg = false) ∨ (∃ fs, P.underlying kt = some (.struct fs) ∧ agg = true ∧ P.stoodInHeld kt = false ∧ keyKinds P fs.toList 0 = some ks)

theorem mapKinds_ty {P : Program} {t : TypeId} {ks : List CK} {agg : Bool} {vk : IntKind} (e : mapKinds P t = some (ks, agg, vk)) : ∃ kt et, MapTy P t ks agg vk kt et := by
  unfold mapKinds at e
  split at e
  · rename_i k el hu
    split at e
    · rename_i vk' hv
      split at e
      · rename_i kk hk; cases e; exact ⟨k, el, hu, hv, .inl ⟨kk, hk, rfl, rfl⟩⟩
      · rename_i fs hk
        split at e
        · rename_i l hs hl; cases e; exact ⟨k, el, hu, hv, .inr ⟨fs, hk, rfl, hs, hl⟩⟩
        · cases e
      · cases e
    · cases e
  · cases e

theorem keyOf_den {P : Program} {t kt et : TypeId} {ρ : Ren} {ks : List CK} {agg : Bool} {vk : IntKind} (ty : MapTy P t ks agg vk kt et) {v : AV} {k : List Int} {x : Value} (e : keyOf ks agg v = some k) (hx : relS ρ v x) : x = keyVal ks agg k ∧ keyWf ks k := by
  unfold keyOf at e
  split at e
  · obtain ⟨xs, hxs, rfl⟩ := den_agg (relS_den hx (by simp))
    obtain ⟨rfl, hw⟩ := keyInts_den _ _ _ _ e hxs
    exact ⟨rfl, hw⟩
  · cases e
  · rename_i hne
    rcases ty.key with ⟨kk, _, rfl, _⟩ | ⟨fs, _, h, _⟩
    · have hvt : v ≠ .top := by
        intro h; subst h; simp [keyInts, keyInt] at e
      have hd := relS_den hx hvt
      obtain ⟨h1, hw⟩ := keyInts_den (ρ := ρ) [.int kk] [v] k [x] e (by simp [denL, hd])
      refine ⟨?_, hw⟩
      simp [keyVal, ← h1]
    · cases h
  · cases e

theorem run_part_cell {P : Program} {w : World} {t : TypeId} {xs : Array Value} {off : Nat} {v : Value} (ha : isAggT P t = some false) (hv : xs[off]? = some v) : (part t xs off).run P w = .ok v w := by
  simp [part, run_isAgg ha, hv]

theorem eqFields_key {P : Program} {w : World} {d : Nat} : ∀ (fs : List Field) (off : Nat) (ks : List CK) (k k' : List Int) (pre pre' : List Value), keyKinds P fs off = some ks → pre.length = off → pre'.length = off → keyWf ks k → keyWf ks k' →
    (Op.eqFields (d + 1) (pre ++ keyCells ks k).toArray (pre' ++ keyCells ks k').toArray fs).run P w = .ok (k == k') w
  | [], off, ks, k, k', pre, pre', e, _, _, hk, hk' => by
    simp only [keyKinds] at e; cases e
    cases k <;> simp [keyWf] at hk
    cases k' <;> simp [keyWf] at hk'
    simp [Op.eqFields]
  | f :: r, off, ks, k, k', pre, pre', e, hp, hp', hk, hk' => by
    simp only [keyKinds] at e
    split at e
    · rename_i kk hn ho hu hs
      split at e
      · rename_i l hl
        cases e
        have ho := Nat.eq_of_beq_eq_true ho
        cases k with
        | nil => simp [keyWf] at hk
        | cons n ns => cases k' with
          | nil => simp [keyWf] at hk'
          | cons n' ns' =>
            have ha : isAggT P f.type = some false := by simp [isAggT, hu]
            have h1 : (pre ++ keyCells (.int kk :: l) (n :: ns)).toArray[f.offset]? = some (.int kk n) := by rw [ho]; simp [keyCells, cellKey, ← hp]
            have h2 : (pre' ++ keyCells (.int kk :: l) (n' :: ns')).toArray[f.offset]? = some (.int kk n') := by rw [ho]; simp [keyCells, cellKey, ← hp']
            simp only [Op.eqFields]
            rw [if_pos (of_decide_eq_true hn)]
            simp only [Sem.run_bind, run_part_cell ha h1, run_part_cell ha h2, Result.andThen_ok, run_equalIn_int w d f.type _ _ _ _ hu]
            have ih := eqFields_key (P := P) (w := w) (d := d) r (off + 1) l ns ns' (pre ++ [.int kk n]) (pre' ++ [.int kk n']) hl (by simp [hp]) (by simp [hp']) hk hk'
            simp only [List.append_assoc, List.singleton_append] at ih
            by_cases hnn : n = n'
            · subst hnn
              simp [keyCells, cellKey] at ih ⊢
              exact ih
            · have : (n == n') = false := by simpa using hnn
              simp [this, hnn]
      · cases e
    · rename_i hn ho hu hs
      split at e
      · rename_i l hl
        cases e
        have ho := Nat.eq_of_beq_eq_true ho
        cases k with
        | nil => simp [keyWf] at hk
        | cons n ns => cases k' with
          | nil => simp [keyWf] at hk'
          | cons n' ns' =>
            have ha : isAggT P f.type = some false := by simp [isAggT, hu]
            have h1 : (pre ++ keyCells (.bool :: l) (n :: ns)).toArray[f.offset]? = some (.bool (n == 1)) := by rw [ho]; simp [keyCells, cellKey, ← hp]
            have h2 : (pre' ++ keyCells (.bool :: l) (n' :: ns')).toArray[f.offset]? = some (.bool (n' == 1)) := by rw [ho]; simp [keyCells, cellKey, ← hp']
            simp only [Op.eqFields]
            rw [if_pos (of_decide_eq_true hn)]
            simp only [Sem.run_bind, run_part_cell ha h1, run_part_cell ha h2, Result.andThen_ok, run_equalIn_bool' w d f.type _ _ hu]
            have ih := eqFields_key (P := P) (w := w) (d := d) r (off + 1) l ns ns' (pre ++ [.bool (n == 1)]) (pre' ++ [.bool (n' == 1)]) hl (by simp [hp]) (by simp [hp']) hk.2 hk'.2
            simp only [List.append_assoc, List.singleton_append] at ih
            rcases hk.1 with rfl | rfl <;> rcases hk'.1 with rfl | rfl
            · simp [keyCells, cellKey] at ih ⊢; exact ih
            · simp
            · simp
            · simp [keyCells, cellKey] at ih ⊢; exact ih
      · cases e
    · cases e

theorem equal_key {P : Program} {w : World} {t kt et : TypeId} {ks : List CK} {agg : Bool} {vk : IntKind} (ty : MapTy P t ks agg vk kt et) {k k' : List Int} (hk : keyWf ks k) (hk' : keyWf ks k') :
    (Op.equal kt (keyVal ks agg k) (keyVal ks agg k')).run P w = .ok (k == k') w := by
  have key : ∀ d, (Op.equalIn (d + 2) kt (keyVal ks agg k) (keyVal ks agg k')).run P w = .ok (k == k') w := by
    intro d
    rcases ty.key with ⟨kk, hu, rfl, rfl⟩ | ⟨fs, hu, rfl, hs, hl⟩
    · match k, k', hk, hk' with
      | [n], [n'], _, _ =>
        simp only [keyVal, keyCells, cellKey]
        rw [run_equalIn_int w (d + 1) kt _ _ _ _ hu]
        simp
      | [], _, h, _ => simp [keyWf] at h
      | _ :: _ :: _, _, h, _ => simp [keyWf] at h
      | [_], [], _, h => simp [keyWf] at h
      | [_], _ :: _ :: _, _, h => simp [keyWf] at h
    · have hfo : P.fieldsOf kt = fs := by simp [Program.fieldsOf, hu]
      simp only [keyVal]
      rw [run_equalIn_struct w (d + 1) kt _ _ (by rw [hfo]; exact hu) hs, hfo]
      exact eqFields_key fs.toList 0 ks k k' [] [] hl rfl rfl hk hk'
  exact key 9998

theorem checkFields_ok {P : Program} {w : World} {em : Bool} {n : Nat} : ∀ (fs : List Field) (off : Nat) (ks : List CK) (k : List Int) (pre : List Value), keyKinds P fs off = some ks → pre.length = off → keyWf ks k →
    (forIn fs PUnit.unit (fun f (_ : PUnit) => (do if f.name ≠ "_" then Instr.checkKey em (n + 1) f.type (← part f.type (pre ++ keyCells ks k).toArray f.offset)
                                                      pure (ForInStep.yield PUnit.unit) : Sem (ForInStep PUnit)))).run P w = .ok PUnit.unit w
  | [], off, ks, k, pre, e, _, hk => by simp
  | f :: r, off, ks, k, pre, e, hp, hk => by
    simp only [keyKinds] at e
    split at e
    · rename_i kk hn ho hu hs
      split at e
      · rename_i l hl
        cases e
        have ho := Nat.eq_of_beq_eq_true ho
        cases k with
        | nil => simp [keyWf] at hk
        | cons m ns =>
          have ha : isAggT P f.type = some false := by simp [isAggT, hu]
          have h1 : (pre ++ keyCells (.int kk :: l) (m :: ns)).toArray[f.offset]? = some (.int kk m) := by rw [ho]; simp [keyCells, cellKey, ← hp]
          have ih := checkFields_ok (P := P) (w := w) (em := em) (n := n) r (off + 1) l ns (pre ++ [.int kk m]) hl (by simp [hp]) hk
          simp only [List.append_assoc, List.singleton_append] at ih
          simp only [List.forIn_cons, Sem.run_bind]
          rw [if_pos (of_decide_eq_true hn)]
          simp only [Sem.run_bind, run_part_cell ha h1, Result.andThen_ok, Instr.checkKey, run_underlying' hu, Sem.run_pure]
          exact ih
      · cases e
    · rename_i hn ho hu hs
      split at e
      · rename_i l hl
        cases e
        have ho := Nat.eq_of_beq_eq_true ho
        cases k with
        | nil => simp [keyWf] at hk
        | cons m ns =>
          have ha : isAggT P f.type = some false := by simp [isAggT, hu]
          have h1 : (pre ++ keyCells (.bool :: l) (m :: ns)).toArray[f.offset]? = some (.bool (m == 1)) := by rw [ho]; simp [keyCells, cellKey, ← hp]
          have ih := checkFields_ok (P := P) (w := w) (em := em) (n := n) r (off + 1) l ns (pre ++ [.bool (m == 1)]) hl (by simp [hp]) hk.2
          simp only [List.append_assoc, List.singleton_append] at ih
          simp only [List.forIn_cons, Sem.run_bind]
          rw [if_pos (of_decide_eq_true hn)]
          simp only [Sem.run_bind, run_part_cell ha h1, Result.andThen_ok, Instr.checkKey, run_underlying' hu, Sem.run_pure]
          exact ih
      · cases e
    · cases e

theorem checkKey_ok {P : Program} {w : World} {t kt et : TypeId} {ks : List CK} {agg : Bool} {vk : IntKind} (ty : MapTy P t ks agg vk kt et) {k : List Int} (hk : keyWf ks k) (em : Bool) :
    (Instr.checkKey em 10000 kt (keyVal ks agg k)).run P w = .ok () w := by
  have key : ∀ n d, n = d + 1 → (Instr.checkKey em (n + 1) kt (keyVal ks agg k)).run P w = .ok () w := by
    intro n d hn
    rcases ty.key with ⟨kk, hu, rfl, rfl⟩ | ⟨fs, hu, rfl, hs, hl⟩
    · match k, hk with
      | [n], _ => simp [keyVal, keyCells, cellKey, Instr.checkKey, run_underlying' hu]
      | [], h => simp [keyWf] at h
      | _ :: _ :: _, h => simp [keyWf] at h
    · have := checkFields_ok (P := P) (w := w) (em := em) (n := d) fs.toList 0 ks k [] hl rfl hk
      simp only [List.nil_append] at this
      simp only [keyVal, Instr.checkKey, Sem.run_bind, run_underlying' hu, Result.andThen_ok]
      rw [← Array.forIn_toList, hn, this]
      rfl
  exact key 9999 9998 rfl

/-! ### what is found -/
def findK (k : List Int) : List (List Int × Int) → Nat → Option (Nat × Int)
  | [], _ => none
  | x :: r, i => if x.1 == k then some (i, x.2) else findK k r (i + 1)

theorem findK_find {k : List Int} : ∀ (kl : List (List Int × Int)) (i : Nat), (findK k kl i).map (·.2) = (kl.find? (fun x => x.1 == k)).map (·.2)
  | [], i => rfl
  | x :: r, i => by
    simp only [findK, List.find?_cons]
    by_cases h : (x.1 == k) = true
    · simp [h]
    · simp only [h, if_false, Bool.false_eq_true]; exact findK_find r (i + 1)

theorem findK_some {k : List Int} : ∀ (kl : List (List Int × Int)) (i j : Nat) (n : Int), findK k kl i = some (j, n) → i ≤ j ∧ kl[j - i]? = some (k, n)
  | [], i, j, n, h => by simp [findK] at h
  | x :: r, i, j, n, h => by
    simp only [findK] at h
    split at h
    · rename_i hx; cases h; have : x.1 = k := by simpa using hx
      subst this; simp
    · obtain ⟨h1, h2⟩ := findK_some r (i + 1) j n h
      refine ⟨by omega, ?_⟩
      rw [show j - i = (j - (i + 1)) + 1 by omega, List.getElem?_cons_succ]; exact h2

theorem findK_none {k : List Int} : ∀ (kl : List (List Int × Int)) (i : Nat), findK k kl i = none → ∀ x ∈ kl, x.1 ≠ k
  | [], i, h, x, hx => by simp at hx
  | y :: r, i, h, x, hx => by
    simp only [findK] at h
    split at h
    · cases h
    · rename_i hy
      rcases List.mem_cons.1 hx with rfl | hx
      · intro e; exact hy (by simpa using e)
      · exact findK_none r (i + 1) h x hx

theorem findAsking_ok {P : Program} {w : World} {t kt et : TypeId} {ks : List CK} {agg : Bool} {vk : IntKind} (ty : MapTy P t ks agg vk kt et) {k : List Int} (hk : keyWf ks k) :
    ∀ (es : List MapEntry) (kl : List (List Int × Int)) (i : Nat), es.map (fun e => (e.key, e.val)) = kl.map (fun x => (keyVal ks agg x.1, .int vk x.2)) → (∀ x ∈ kl, keyWf ks x.1) →
      (Instr.findAsking kt (keyVal ks agg k) es i).run P w = .ok ((findK k kl i).map (fun r => (r.1, .int vk r.2))) w
  | [], [], i, _, _ => by simp [Instr.findAsking, findK]
  | [], _ :: _, i, h, _ => by simp at h
  | _ :: _, [], i, h, _ => by simp at h
  | e :: es, x :: kl, i, h, hw => by
    simp only [List.map_cons, List.cons.injEq, Prod.mk.injEq] at h
    obtain ⟨⟨h1, h2⟩, h3⟩ := h
    have heq := equal_key (w := w) ty hk (hw x (List.mem_cons_self ..))
    simp only [Instr.findAsking, Sem.run_bind, h1, heq, Result.andThen_ok, findK]
    by_cases hkx : k = x.1
    · subst hkx; simp [h2]
    · have e1 : (k == x.1) = false := by simpa using hkx
      have e2 : (x.1 == k) = false := by simpa using Ne.symm hkx
      simp only [e1, e2, Bool.false_eq_true, if_false]
      exact findAsking_ok ty hk es kl (i + 1) h3 (fun y hy => hw y (List.mem_cons_of_mem _ hy))

theorem findNow_int {kk : IntKind} {vk : IntKind} {n : Int} : ∀ (es : List MapEntry) (kl : List (List Int × Int)) (i : Nat), es.map (fun e => (e.key, e.val)) = kl.map (fun x => (keyVal [.int kk] false x.1, .int vk x.2)) → (∀ x ∈ kl, keyWf [.int kk] x.1) →
      Instr.findNow (.int kk) (.int kk n) es i = some ((findK [n] kl i).map (fun r => (r.1, .int vk r.2)))
  | [], [], i, _, _ => by simp [Instr.findNow, findK]
  | [], _ :: _, i, h, _ => by simp at h
  | _ :: _, [], i, h, _ => by simp at h
  | e :: es, x :: kl, i, h, hw => by
    simp only [List.map_cons, List.cons.injEq, Prod.mk.injEq] at h
    obtain ⟨⟨h1, h2⟩, h3⟩ := h
    have hx := hw x (List.mem_cons_self ..)
    obtain ⟨xk, xv⟩ := x
    match xk, hx with
    | [m], _ =>
      have ih := findNow_int (n := n) es kl (i + 1) h3 (fun y hy => hw y (List.mem_cons_of_mem _ hy))
      simp only [keyVal, keyCells, cellKey] at h1
      simp only [Instr.findNow, h1, Instr.sameNow, if_true, findK]
      by_cases hnm : n = m
      · subst hnm; simp [h2]
      · have e1 : (n == m) = false := by simpa using hnm
        have e2 : (([m] : List Int) == [n]) = false := by simpa using Ne.symm hnm
        simp only [e1, e2, Bool.false_eq_true, if_false]
        exact ih
    | [], h => simp [keyWf] at h
    | _ :: _ :: _, h => simp [keyWf] at h

theorem findKey_ok {P : Program} {w : World} {t kt et : TypeId} {ks : List CK} {agg : Bool} {vk : IntKind} (ty : MapTy P t ks agg vk kt et) {k : List Int} (hk : keyWf ks k) {es : List MapEntry} {kl : List (List Int × Int)}
    (h : es.map (fun e => (e.key, e.val)) = kl.map (fun x => (keyVal ks agg x.1, .int vk x.2))) (hw : ∀ x ∈ kl, keyWf ks x.1) :
    (Instr.findKey kt (keyVal ks agg k) es).run P w = .ok ((findK k kl 0).map (fun r => (r.1, .int vk r.2))) w := by
  rcases ty.key with ⟨kk, hu, rfl, rfl⟩ | ⟨fs, hu, rfl, hs, hl⟩
  · match k, hk with
    | [n], _ =>
      have := findNow_int (n := n) es kl 0 h hw
      simp only [keyVal, keyCells, cellKey]
      simp [Instr.findKey, run_underlying' hu, this]
    | [], h => simp [keyWf] at h
    | _ :: _ :: _, h => simp [keyWf] at h
  · rw [run_findKey_eq w (by simp [hu])]
    exact findAsking_ok ty hk es kl 0 h hw

/-! ### the three operations -/
theorem zero_int {P : Program} {w : World} {t : TypeId} : ∀ {v : Value}, zeroT P t = some (ofVal v) → (zeroValue t).run P w = .ok v w := by
  intro v h
  unfold zeroT at h
  split at h
  · rename_i i hi
    split at h
    · rename_i v' hv
      have h : ofVal v' = ofVal v := by simpa using h
      have h1 := ofVal_den (fun _ => none) v'
      rw [h, ofVal_den] at h1
      cases h1
      simp [zeroValue, typeInfo, hi, hv]
    · cases h
  · cases h

theorem mapAt_rep {P : Program} {ρ : Ren} {w : World} {h : Hp} {b : Nat} {t : TypeId} {f : List Int → Option Int} {L : Loc} (e : mapAt h b = some (t, f)) (hr : HeapRep P ρ h.heap w) (hb : ρ b = some L) :
    ∃ ks agg vk, mapKinds P t = some (ks, agg, vk) ∧ ∃ es clock, w.heap[L.blk]? = some (.map es clock) ∧ BornOk es.toList clock ∧ MapRep ks agg vk es.toList f := by
  unfold mapAt at e
  split at e
  · rename_i t' f' hg
    cases e
    obtain ⟨_, _, ks', agg', vk', hmk', es, clock, hblk, hbo, hm⟩ := hr.obj hg hb
    exact ⟨ks', agg', vk', hmk', es, clock, hblk, hbo, hm⟩
  · rename_i t' f' n' k' hg
    cases e
    obtain ⟨_, _, ks', agg', vk', hmk', _, es, clock, hblk, hbo, hm, _⟩ := hr.obj hg hb
    exact ⟨ks', agg', vk', hmk', es, clock, hblk, hbo, hm⟩
  · cases e
theorem lookup_ok {P : Program} {ρ : Ren} {w : World} {t : TypeId} {m key r : AV} {ok : Bool} {h : Hp} {M K : Value} (e : lookupA P t m key ok h = some r) (hr : HeapRep P ρ h.heap w) (hm : relS ρ m M) (hkey : relS ρ key K) :
    ∃ z, (Instr.lookup t M K ok).run P w = .ok z w ∧ den ρ r = some z := by
  unfold lookupA at e
  split at e
  · rename_i ks agg vk hmk
    obtain ⟨kt, et, ty⟩ := mapKinds_ty hmk
    split at e
    · cases e
    · rename_i z0 hz
      split at e
      · cases e
      rename_i k hk
      obtain ⟨rfl, hw⟩ := keyOf_den ty hk hkey
      have hzr : (zeroValue et).run P w = .ok (.int vk 0) w := by
        unfold zeroOk at hz
        split at hz
        · rename_i kt' et' hmap
          rw [ty.map] at hmap; cases hmap
          split at hz
          · rename_i vk' n' hz'
            split at hz
            · rename_i h1 h2; cases hz
              have h1 := of_decide_eq_true h1; subst h1
              have h2 := of_decide_eq_true h2; subst h2
              exact zero_int (by rw [hz']; rfl)
            · cases hz
          · cases hz
        · cases hz
      split at e
      · have := relS_den hm (by simp); simp [den] at this; subst this
        split at e <;> cases e
        · refine ⟨.tuple #[.int vk 0, .bool false], ?_, by simp [den, denL]⟩
          have hf := findKey_ok (w := w) ty hw (es := []) (kl := []) rfl (by simp)
          simp [findK] at hf
          simp [Instr.lookup, run_underlying' ty.map, checkKey_ok ty hw, hf, hzr]
        · refine ⟨.int vk 0, ?_, by simp [den]⟩
          have hf := findKey_ok (w := w) ty hw (es := []) (kl := []) rfl (by simp)
          simp [findK] at hf
          simp [Instr.lookup, run_underlying' ty.map, checkKey_ok ty hw, hf, hzr]
      · rename_i b
        split at e
        · rename_i t' f hg
          split at e
          · cases e
          rename_i htt
          have htt := Nat.eq_of_beq_eq_true htt
          subst htt
          have hd := relS_den hm (by simp)
          simp only [den] at hd
          cases hb : ρ b with
          | none => simp [hb] at hd
          | some L =>
            simp only [hb] at hd; cases hd
            obtain ⟨ks', agg', vk', hmk', es, clock, hblk, hbo, kl, hes, hnd, hkw, hf⟩ := mapAt_rep hg hr hb
            rw [hmk] at hmk'; cases hmk'
            have hfind := findKey_ok (w := w) ty hw hes hkw
            have hfk : f k = (findK k kl 0).map (·.2) := by rw [hf k hw, findK_find]
            have hget : (getObj L.blk).run P w = .ok (.map es clock) w := by simp [getObj, Sem.run, hblk]
            have hchk := checkKey_ok (w := w) ty hw es.isEmpty
            cases hfo : findK k kl 0 with
            | none =>
              rw [hfo] at hfk hfind
              simp at hfk hfind
              split at e <;> cases e
              · refine ⟨.tuple #[.int vk 0, .bool false], ?_, by simp [den, denL, hfk]⟩
                simp [Instr.lookup, run_underlying' ty.map, hget, hchk, hfind, hzr]
              · refine ⟨.int vk 0, ?_, by simp [den, hfk]⟩
                simp [Instr.lookup, run_underlying' ty.map, hget, hchk, hfind, hzr]
            | some p =>
              obtain ⟨i, n⟩ := p
              rw [hfo] at hfk hfind
              simp at hfk hfind
              split at e <;> cases e
              · refine ⟨.tuple #[.int vk n, .bool true], ?_, by simp [den, denL, hfk]⟩
                simp [Instr.lookup, run_underlying' ty.map, hget, hchk, hfind]
              · refine ⟨.int vk n, ?_, by simp [den, hfk]⟩
                simp [Instr.lookup, run_underlying' ty.map, hget, hchk, hfind]
        · cases e
      · cases e
  · cases e

theorem sameBits_cell (n : Nat) : ∀ (k : CK) (m : Int), k ≠ .val → Instr.sameBits n (cellKey k m) (cellKey k m) = true
  | .int k, m, _ => by cases n <;> simp [cellKey, Instr.sameBits]
  | .bool, m, _ => by cases n <;> simp [cellKey, Instr.sameBits]
  | .val, m, h => absurd rfl h

theorem keyCells_cell : ∀ (ks : List CK) (l : List Int), keyWf ks l → ∀ v ∈ keyCells ks l, ∃ k m, v = cellKey k m ∧ k ≠ .val
  | [], [], _, v, h => by simp [keyCells] at h
  | [], _ :: _, h, _, _ => by simp [keyWf] at h
  | .int _ :: _, [], h, _, _ => by simp [keyWf] at h
  | .bool :: _, [], h, _, _ => by simp [keyWf] at h
  | .val :: _, [], h, _, _ => by simp [keyWf] at h
  | .val :: _, _ :: _, h, _, _ => by simp [keyWf] at h
  | .int k :: ks, n :: ns, hw, v, h => by
    simp only [keyCells, List.mem_cons] at h
    rcases h with rfl | h
    · exact ⟨_, _, rfl, by simp⟩
    · exact keyCells_cell ks ns hw v h
  | .bool :: ks, n :: ns, hw, v, h => by
    simp only [keyCells, List.mem_cons] at h
    rcases h with rfl | h
    · exact ⟨_, _, rfl, by simp⟩
    · exact keyCells_cell ks ns hw.2 v h

theorem sameBits_key {P : Program} {t kt et : TypeId} {ks : List CK} {agg : Bool} {vk : IntKind} (ty : MapTy P t ks agg vk kt et) {k : List Int} (hk : keyWf ks k) : Instr.sameBits 10000 (keyVal ks agg k) (keyVal ks agg k) = true := by
  have key : ∀ n, Instr.sameBits (n + 1) (keyVal ks agg k) (keyVal ks agg k) = true := by
    intro n
    rcases ty.key with ⟨kk, hu, rfl, rfl⟩ | ⟨fs, hu, rfl, hs, hl⟩
    · match k, hk with
      | [m], _ => simp [keyVal, keyCells, cellKey, Instr.sameBits]
      | [], h => simp [keyWf] at h
      | _ :: _ :: _, h => simp [keyWf] at h
    · simp only [keyVal, Instr.sameBits, List.size_toArray, beq_self_eq_true, Bool.true_and, List.all_eq_true]
      intro p hp
      obtain ⟨i, hi⟩ := List.mem_iff_getElem?.1 hp
      rw [List.getElem?_zip_eq_some] at hi
      have : p.1 = p.2 := by have := hi.1.symm.trans hi.2; simpa using this
      obtain ⟨k', m, h1, h2⟩ := keyCells_cell ks k hk p.1 (List.mem_of_getElem? hi.1)
      rw [← this, h1]; exact sameBits_cell n k' m h2
  exact key 9999

theorem run_setObj {P : Program} {w : World} {r : Nat} {es : Array MapEntry} {c : Nat} (o : Obj) (h : w.heap[r]? = some (.map es c)) : (setObj r o).run P w = .ok () { w with heap := w.heap.setIfInBounds r o } := by
  simp [setObj, Sem.run, h]

/-! ### stamps -/
theorem born_push {es : Array MapEntry} {c : Nat} {x : MapEntry} (h : BornOk es.toList c) (hx : x.born = c) : BornOk (es.push x).toList (c + 1) := by
  refine ⟨fun e he => ?_, ?_⟩
  · simp at he
    rcases he with he | rfl
    · have := h.1 e (by simpa using he); omega
    · omega
  · simp only [Array.toList_push, List.map_append, List.map_cons, List.map_nil]
    rw [List.nodup_append]
    refine ⟨h.2, by simp, fun a ha b hb => ?_⟩
    simp at hb; subst hb
    obtain ⟨e, he, rfl⟩ := List.mem_map.1 ha
    have := h.1 e he
    omega
theorem born_modify {es : Array MapEntry} {c i : Nat} {g : MapEntry → MapEntry} (h : BornOk es.toList c) (hg : ∀ e, (g e).born = e.born) : BornOk (es.modify i g).toList c := by
  have hm : (es.modify i g).toList.map (·.born) = es.toList.map (·.born) := by
    refine List.ext_getElem? fun j => ?_
    simp only [List.getElem?_map, Array.getElem?_toList, Array.getElem?_modify]
    by_cases hj : i = j
    · subst hj; cases es[i]? <;> simp [hg]
    · simp [hj]
  refine ⟨fun e he => ?_, by rw [hm]; exact h.2⟩
  have : e.born ∈ (es.modify i g).toList.map (·.born) := List.mem_map.2 ⟨e, he, rfl⟩
  rw [hm] at this
  obtain ⟨e', he', hb⟩ := List.mem_map.1 this
  have := h.1 e' he'
  omega
theorem born_erase {es : Array MapEntry} {c i : Nat} (h : BornOk es.toList c) : BornOk (es.eraseIdxIfInBounds i).toList c := by
  rw [show (es.eraseIdxIfInBounds i).toList = es.toList.eraseIdx i by simp]
  have hs : (es.toList.eraseIdx i).Sublist es.toList := List.eraseIdx_sublist _ _
  exact ⟨fun e he => h.1 e (hs.mem he), (hs.map _).nodup h.2⟩

/-- Another map's object in a map's block. -/
theorem map_put {P : Program} {ρ : Ren} {w : World} {h : Hp} {b : Nat} {t : TypeId} {f f' : List Int → Option Int} {L : Loc} {es es' : Array MapEntry} {c c' : Nat} {ks : List CK} {agg : Bool} {vk : IntKind}
    (hr : HeapRep P ρ h.heap w) (hg : get h.heap b = some (.map t f)) (hL : ρ b = some L) (hmk : mapKinds P t = some (ks, agg, vk)) (hblk : w.heap[L.blk]? = some (.map es c)) (hbo : BornOk es'.toList c') (hm : MapRep ks agg vk es'.toList f') :
    Step P ρ h w ρ (h.put b (.map t f')) { w with heap := w.heap.setIfInBounds L.blk (.map es' c') } := by
  have hlt : L.blk < w.heap.size := (Array.getElem?_eq_some_iff.1 hblk).1
  obtain ⟨h0, h1, _⟩ := hr.obj hg hL
  refine put_step hr hg rfl rfl hL h1 (fun k hk => by simp [Array.getElem?_setIfInBounds_ne (Ne.symm hk)]) (by simp) rfl rfl rfl ⟨h0, h1, ks, agg, vk, hmk, es', c', ?_, hbo, hm⟩
  simp [hlt]

theorem find_map_eq {k : List Int} : ∀ {l : List (List Int × Int)} {i : Nat} {n : Int}, (l.map (·.1)).Nodup → l[i]? = some (k, n) → l.find? (fun x => x.1 == k) = some (k, n)
  | [], i, n, _, h => by simp at h
  | x :: r, 0, n, _, h => by simp at h; subst h; simp
  | x :: r, i + 1, n, hnd, h => by
    simp only [List.map_cons, List.nodup_cons] at hnd
    simp only [List.getElem?_cons_succ] at h
    have hne : x.1 ≠ k := by
      intro e
      exact hnd.1 (List.mem_map.2 ⟨(k, n), List.mem_of_getElem? h, e.symm⟩)
    rw [List.find?_cons]
    have : (x.1 == k) = false := by simpa using hne
    simp only [this]
    exact find_map_eq hnd.2 h

theorem update_ok {P : Program} {ρ : Ren} {w : World} {t : TypeId} {m key v : AV} {h h' : Hp} (e : updateA P t m key v h = some h') :
    Mono h h' ∧ (HeapRep P ρ h.heap w → ∀ M K V, relS ρ m M → relS ρ key K → relS ρ v V → ∃ w', (Instr.mapUpdate t M K V).run P w = .ok () w' ∧ Step P ρ h w ρ h' w') := by
  unfold updateA at e
  split at e
  · rename_i ks agg vk b vk' c n hmk hv
    split at e
    · rename_i k t' f hk hg hvk
      split at e
      · rename_i htt
        cases e
        have htt := Nat.eq_of_beq_eq_true htt; subst htt
        have hvk := of_decide_eq_true hvk; subst hvk
        refine ⟨put_mono _ _ _, fun hr M K V hM hK hV => ?_⟩
        obtain ⟨kt, et, ty⟩ := mapKinds_ty hmk
        obtain ⟨rfl, hw⟩ := keyOf_den ty hk hK
        obtain ⟨hv1, hv2⟩ := asI_den (ρ := ρ) hv
        have := relS_den hV hv2; rw [hv1] at this; cases this
        have hd := relS_den hM (by simp)
        simp only [den] at hd
        cases hb : ρ b with
        | none => simp [hb] at hd
        | some L =>
          simp only [hb] at hd; cases hd
          obtain ⟨h0, h1, ks', agg', vk', hmk', es, clock, hblk, hbo, kl, hes, hnd, hkw, hf⟩ := hr.obj hg hb
          rw [hmk] at hmk'; cases hmk'
          have hfind := findKey_ok (w := w) ty hw hes hkw
          have hget : (getObj L.blk).run P w = .ok (.map es clock) w := by simp [getObj, Sem.run, hblk]
          have hchk := checkKey_ok (w := w) ty hw false
          cases hfo : findK k kl 0 with
          | none =>
            rw [hfo] at hfind
            have hno := findK_none kl 0 hfo
            refine ⟨_, ?_, map_put (es' := es.push { key := keyVal ks agg k, val := .int vk n, born := clock }) (c' := clock + 1) hr hg hb hmk hblk (born_push hbo rfl) ?_⟩
            · simp [Instr.mapUpdate, run_underlying' ty.map, hget, hchk, hfind, run_setObj _ hblk]
            · refine ⟨kl ++ [(k, n)], by simp [hes], ?_, ?_, fun k' hk' => ?_⟩
              · simp only [List.map_append, List.map_cons, List.map_nil]
                rw [List.nodup_append]
                refine ⟨hnd, by simp, fun a ha b' hb' => ?_⟩
                simp at hb'; subst hb'
                obtain ⟨x, hx, rfl⟩ := List.mem_map.1 ha
                exact hno x hx
              · intro x hx
                rcases List.mem_append.1 hx with hx | hx
                · exact hkw x hx
                · simp at hx; subst hx; exact hw
              · simp only [setKey]
                rw [List.find?_append]
                by_cases hkk : k' = k
                · subst hkk
                  have : kl.find? (fun x => x.1 == k') = none := by
                    rw [List.find?_eq_none]; intro x hx; simpa using hno x hx
                  simp [this]
                · rw [if_neg hkk, hf k' hk']
                  cases hfk : kl.find? (fun x => x.1 == k') with
                  | some x => simp
                  | none => simp [Ne.symm hkk]
          | some p =>
            obtain ⟨i, n0⟩ := p
            rw [hfo] at hfind
            obtain ⟨_, hi⟩ := findK_some kl 0 i n0 hfo
            simp only [Nat.sub_zero] at hi
            have hi2 : (es.toList.map (fun e => (e.key, e.val)))[i]? = some (keyVal ks agg k, .int vk n0) := by rw [hes]; simp [hi]
            simp only [List.getElem?_map] at hi2
            cases hei : es.toList[i]? with
            | none => simp [hei] at hi2
            | some e0 =>
              simp [hei] at hi2
              have hei' : es[i]? = some e0 := by simpa using hei
              have hstay : (Instr.keyThatStays (((es[i]?).map (·.key)).getD (keyVal ks agg k)) (keyVal ks agg k)).run P w = .ok (keyVal ks agg k) w := by
                simp [Instr.keyThatStays, hei', hi2.1, sameBits_key ty hw]
              refine ⟨_, ?_, map_put (es' := es.modify i fun e => { e with key := keyVal ks agg k, val := .int vk n }) (c' := clock) hr hg hb hmk hblk (born_modify hbo (fun _ => rfl)) ?_⟩
              · simp only [Instr.mapUpdate, Sem.run_bind, run_underlying' ty.map, Result.andThen_ok, hget, hchk, hfind, Option.map_some, hstay, run_setObj _ hblk]
              · have hkl : ∀ (j : Nat), (kl.modify i (fun x => (k, n)))[j]? = if j = i then some (k, n) else kl[j]? := by
                  intro j
                  rw [List.getElem?_modify]
                  by_cases hj : j = i
                  · subst hj; simp [hi]
                  · simp [hj, Ne.symm hj]
                have hfst : (kl.modify i (fun x => (k, n))).map (·.1) = kl.map (·.1) := by
                  refine List.ext_getElem? fun j => ?_
                  rw [List.getElem?_map, hkl, List.getElem?_map]
                  by_cases hj : j = i
                  · subst hj; simp [hi]
                  · simp [hj]
                refine ⟨kl.modify i (fun x => (k, n)), ?_, by rw [hfst]; exact hnd, ?_, fun k' hk' => ?_⟩
                · refine List.ext_getElem? fun j => ?_
                  have hj0 : (es.toList.map (fun e => (e.key, e.val)))[j]? = (kl.map (fun x => (keyVal ks agg x.1, Value.int vk x.2)))[j]? := by rw [hes]
                  simp only [List.getElem?_map] at hj0 ⊢
                  rw [hkl, Array.getElem?_toList, Array.getElem?_modify]
                  by_cases hj : j = i
                  · subst hj; simp [hei']
                  · simp only [hj, if_false, Ne.symm hj]
                    simpa using hj0
                · intro x hx
                  obtain ⟨j, hj⟩ := List.mem_iff_getElem?.1 hx
                  rw [hkl] at hj
                  split at hj
                  · cases hj; exact hw
                  · exact hkw x (List.mem_of_getElem? hj)
                · simp only [setKey]
                  by_cases hkk : k' = k
                  · subst hkk
                    rw [if_pos rfl, find_map_eq (i := i) (n := n) (by rw [hfst]; exact hnd) (by rw [hkl, if_pos rfl])]
                    rfl
                  · rw [if_neg hkk, hf k' hk']
                    cases hfk : kl.find? (fun x => x.1 == k') with
                    | none =>
                      have : (kl.modify i (fun x => (k, n))).find? (fun x => x.1 == k') = none := by
                        rw [List.find?_eq_none] at hfk ⊢
                        intro x hx
                        obtain ⟨j, hj⟩ := List.mem_iff_getElem?.1 hx
                        rw [hkl] at hj
                        split at hj
                        · cases hj; simpa using Ne.symm hkk
                        · exact hfk x (List.mem_of_getElem? hj)
                      rw [this]
                    | some x =>
                      have hx := List.find?_some hfk
                      have hx1 : x.1 = k' := by simpa using hx
                      obtain ⟨j, hj⟩ := List.mem_iff_getElem?.1 (List.mem_of_find?_eq_some hfk)
                      have hji : j ≠ i := by
                        intro e; subst e; rw [hi] at hj; cases hj; exact hkk hx1.symm
                      obtain ⟨x1, x2⟩ := x
                      simp only at hx1; subst hx1
                      rw [find_map_eq (i := j) (n := x2) (by rw [hfst]; exact hnd) (by rw [hkl, if_neg hji]; exact hj)]
      · cases e
    · cases e
  · cases e

theorem delete_ok {P : Program} {ρ : Ren} {w : World} {t : TypeId} {m key : AV} {h h' : Hp} (e : deleteA P t m key h = some h') :
    Mono h h' ∧ (HeapRep P ρ h.heap w → ∀ r a M K, relS ρ m M → relS ρ key K → ∃ w', (Builtin.delete_ (t :: r).toArray a #[M, K]).run P w = .ok (.tuple #[]) w' ∧ Step P ρ h w ρ h' w') := by
  unfold deleteA at e
  split at e
  · rename_i ks agg vk hmk
    obtain ⟨kt, et, ty⟩ := mapKinds_ty hmk
    split at e
    · rename_i k hk
      cases e
      refine ⟨.refl _, fun hr r a M K hM hK => ?_⟩
      obtain ⟨rfl, hw⟩ := keyOf_den ty hk hK
      have := relS_den hM (by simp); simp [den] at this; subst this
      refine ⟨w, ?_, .refl hr rfl⟩
      simp [Builtin.delete_, run_underlying' ty.map, checkKey_ok ty hw]
    · rename_i k b hk
      split at e
      · rename_i t' f hg
        split at e
        · rename_i htt
          cases e
          have htt := Nat.eq_of_beq_eq_true htt; subst htt
          refine ⟨put_mono _ _ _, fun hr r a M K hM hK => ?_⟩
          obtain ⟨rfl, hw⟩ := keyOf_den ty hk hK
          have hd := relS_den hM (by simp)
          simp only [den] at hd
          cases hb : ρ b with
          | none => simp [hb] at hd
          | some L =>
            simp only [hb] at hd; cases hd
            obtain ⟨h0, h1, ks', agg', vk', hmk', es, clock, hblk, hbo, kl, hes, hnd, hkw, hf⟩ := hr.obj hg hb
            rw [hmk] at hmk'; cases hmk'
            have hfind := findKey_ok (w := w) ty hw hes hkw
            have hget : (getObj L.blk).run P w = .ok (.map es clock) w := by simp [getObj, Sem.run, hblk]
            have hchk := checkKey_ok (w := w) ty hw es.isEmpty
            cases hfo : findK k kl 0 with
            | none =>
              rw [hfo] at hfind
              have hno := findK_none kl 0 hfo
              refine ⟨_, ?_, map_put (es' := es) (c' := clock) hr hg hb hmk hblk hbo ?_⟩
              · simp [Builtin.delete_, run_underlying' ty.map, hget, hchk, hfind, run_setObj _ hblk]
              · refine ⟨kl, hes, hnd, hkw, fun k' hk' => ?_⟩
                simp only [setKey]
                by_cases hkk : k' = k
                · subst hkk
                  have : kl.find? (fun x => x.1 == k') = none := by
                    rw [List.find?_eq_none]; intro x hx; simpa using hno x hx
                  simp [this]
                · rw [if_neg hkk, hf k' hk']
            | some p =>
              obtain ⟨i, n0⟩ := p
              rw [hfo] at hfind
              obtain ⟨_, hi⟩ := findK_some kl 0 i n0 hfo
              simp only [Nat.sub_zero] at hi
              refine ⟨_, ?_, map_put (es' := es.eraseIdxIfInBounds i) (c' := clock) hr hg hb hmk hblk (born_erase hbo) ?_⟩
              · simp [Builtin.delete_, run_underlying' ty.map, hget, hchk, hfind, run_setObj _ hblk]
              · have hsub : (kl.eraseIdx i).Sublist kl := List.eraseIdx_sublist kl i
                refine ⟨kl.eraseIdx i, ?_, (hsub.map _).nodup hnd, fun x hx => hkw x (hsub.mem hx), fun k' hk' => ?_⟩
                · have hlen : es.toList.length = kl.length := by have := congrArg List.length hes; simpa using this
                  rw [show (es.eraseIdxIfInBounds i).toList = es.toList.eraseIdx i by simp]
                  have hmape : ∀ {α β : Type} (g : α → β) (l : List α) (i : Nat), (l.eraseIdx i).map g = (l.map g).eraseIdx i := by
                    intro α β g l
                    induction l with
                    | nil => intro i; simp
                    | cons x r ih => intro i; cases i <;> simp [ih]
                  rw [hmape, hmape, hes]
                · simp only [setKey]
                  by_cases hkk : k' = k
                  · subst hkk
                    rw [if_pos rfl]
                    have : (kl.eraseIdx i).find? (fun x => x.1 == k') = none := by
                      rw [List.find?_eq_none]
                      intro x hx hx2
                      have hx1 : x.1 = k' := by simpa using hx2
                      obtain ⟨j, hj⟩ := List.mem_iff_getElem?.1 hx
                      rw [List.getElem?_eraseIdx] at hj
                      have hinj : ∀ (a b : Nat) (y z : List Int × Int), kl[a]? = some y → kl[b]? = some z → y.1 = z.1 → a = b := by
                        intro a b y z ha hb' hyz
                        have h1 : (kl.map (·.1))[a]? = some y.1 := by simp [ha]
                        have h2 : (kl.map (·.1))[b]? = some y.1 := by simp [hb', hyz]
                        exact (List.getElem?_inj (List.getElem?_eq_some_iff.1 h1).1 hnd).1 (h1.trans h2.symm)
                      split at hj
                      · have := hinj j i x _ hj hi (by simpa using hx1); omega
                      · have := hinj (j + 1) i x _ hj hi (by simpa using hx1); omega
                    rw [this]; rfl
                  · rw [if_neg hkk, hf k' hk']
                    cases hfk : kl.find? (fun x => x.1 == k') with
                    | none =>
                      have : (kl.eraseIdx i).find? (fun x => x.1 == k') = none := by
                        rw [List.find?_eq_none] at hfk ⊢
                        exact fun x hx => hfk x (hsub.mem hx)
                      rw [this]
                    | some x =>
                      have hx := List.find?_some hfk
                      have hx1 : x.1 = k' := by simpa using hx
                      obtain ⟨x1, x2⟩ := x
                      simp only at hx1; subst hx1
                      have hmem : (x1, x2) ∈ kl.eraseIdx i := by
                        obtain ⟨j, hj⟩ := List.mem_iff_getElem?.1 (List.mem_of_find?_eq_some hfk)
                        have hji : j ≠ i := by
                          intro e; subst e; rw [hi] at hj; cases hj; exact hkk rfl
                        rw [List.mem_eraseIdx_iff_getElem?]
                        exact ⟨j, hji, hj⟩
                      obtain ⟨j, hj⟩ := List.mem_iff_getElem?.1 hmem
                      rw [find_map_eq (i := j) (n := x2) ((hsub.map _).nodup hnd) hj]
        · cases e
      · cases e
    · cases e
  · cases e

theorem makeMap_ok {P : Program} {ρ : Ren} {w : World} {t : TypeId} {r : AV} {h h' : Hp} (e : makeMapA P t h = some (r, h')) :
    Mono h h' ∧ r ≠ .top ∧ (Fresh ρ h.nxt h.hi → HeapRep P ρ h.heap w → ∃ ρ' w' x, (Instr.makeMap t none).run P w = .ok x w' ∧ den ρ' r = some x ∧ Step P ρ h w ρ' h' w') := by
  unfold makeMapA at e
  split at e
  · rename_i km hmk
    obtain ⟨ks, agg, vk⟩ := km
    split at e
    · rename_i b h1 hn
      cases e
      refine ⟨new_mono hn, by simp, fun hf hr => ?_⟩
      let l : Loc := ⟨w.heap.size, 0, 0, 1, false⟩
      have ho : ObjRep P (ρ.set b l) (w.alloc (.map #[] 0)) l (.map t (fun _ => none)) :=
        ⟨rfl, by simp [l], ks, agg, vk, hmk, #[], 0, heap_alloc_new w _, ⟨by simp, by simp⟩, [], rfl, by simp, by simp, fun _ _ => rfl⟩
      obtain ⟨hs, _⟩ := new_step hn hr hf (.map #[] 0) l rfl ho
      exact ⟨ρ.set b l, _, .map (some w.heap.size), by simp [Instr.makeMap], by simp [den, Ren.set_same, l], hs⟩
    · cases e
  · cases e


/-- A map's zero value. -/
theorem zero_run {P : Program} {w : World} {t kt et : TypeId} {ks : List CK} {agg : Bool} {vk : IntKind} {z0 : Bool} (ty : MapTy P t ks agg vk kt et) (hz : zeroOk P t vk = some z0) : (zeroValue et).run P w = .ok (.int vk 0) w := by
  unfold zeroOk at hz
  split at hz
  · rename_i kt' et' hmap
    rw [ty.map] at hmap; cases hmap
    split at hz
    · rename_i vk' n' hz'
      split at hz
      · rename_i h1 h2; cases hz
        have h1 := of_decide_eq_true h1; subst h1
        have h2 := of_decide_eq_true h2; subst h2
        exact zero_int (by rw [hz']; rfl)
      · cases hz
    · cases hz
  · cases hz

theorem set_set {w : World} {r : Nat} {o o' : Obj} : ({ ({ w with heap := w.heap.setIfInBounds r o } : World) with heap := (w.heap.setIfInBounds r o).setIfInBounds r o' } : World) = { w with heap := w.heap.setIfInBounds r o' } := by
  simp

/-- 'm[k], .. = v, ..': the entry is made first, and filled later. -/
theorem entry_ok {P : Program} {ρ : Ren} {w : World} {t : TypeId} {m key v : AV} {h h' : Hp} (e : updateA P t m key v h = some h') {ks0 : List CK} {agg0 : Bool} {vk0 : IntKind} {z0 : Bool} (hk0 : mapKinds P t = some (ks0, agg0, vk0)) (hz : zeroOk P t vk0 = some z0)
    (hr : HeapRep P ρ h.heap w) {M K V : Value} (hM : relS ρ m M) (hK : relS ρ key K) (hV : relS ρ v V) :
    ∃ x s w1 w', (Instr.mapEntry t M K).run P w = .ok (.tuple #[x, goInt s]) w1 ∧ (Instr.entryStore t M (goInt s) V).run P w1 = .ok () w' ∧ Step P ρ h w ρ h' w' := by
  obtain ⟨w', hrun, st⟩ := (update_ok e).2 hr M K V hM hK hV
  unfold updateA at e
  split at e
  · rename_i ks agg vk b vk' c n hmk hv
    rw [hmk] at hk0
    simp only [Option.some.injEq, Prod.mk.injEq] at hk0
    obtain ⟨rfl, rfl, rfl⟩ := hk0
    split at e
    · rename_i k t' f hk hg hvk
      split at e
      · rename_i htt
        have htt := Nat.eq_of_beq_eq_true htt; subst htt
        obtain ⟨kt, et, ty⟩ := mapKinds_ty hmk
        obtain ⟨rfl, hw⟩ := keyOf_den ty hk hK
        have hd := relS_den hM (by simp)
        simp only [den] at hd
        cases hb : ρ b with
        | none => simp [hb] at hd
        | some L =>
          simp only [hb] at hd; cases hd
          obtain ⟨h0, h1, ks', agg', vk', hmk', es, clock, hblk, hbo, kl, hes, hnd, hkw, hf⟩ := hr.obj hg hb
          rw [hmk] at hmk'; cases hmk'
          have hlt : L.blk < w.heap.size := (Array.getElem?_eq_some_iff.1 hblk).1
          have hfind := findKey_ok (w := w) ty hw hes hkw
          have hget : (getObj L.blk).run P w = .ok (.map es clock) w := by simp [getObj, Sem.run, hblk]
          have hchk := checkKey_ok (w := w) ty hw false
          have hzr := zero_run (w := w) ty hz
          cases hfo : findK k kl 0 with
          | none =>
            rw [hfo] at hfind
            have hW : (Instr.mapUpdate t (.map (some L.blk)) (keyVal ks agg k) V).run P w = .ok () { w with heap := w.heap.setIfInBounds L.blk (.map (es.push { key := keyVal ks agg k, val := V, born := clock }) (clock + 1)) } := by
              simp [Instr.mapUpdate, run_underlying' ty.map, hget, hchk, hfind, run_setObj _ hblk]
            rw [hW] at hrun; cases hrun
            let es1 := es.push { key := keyVal ks agg k, val := .int vk 0, born := clock }
            have hb1 : ({ w with heap := w.heap.setIfInBounds L.blk (.map es1 (clock + 1)) } : World).heap[L.blk]? = some (.map es1 (clock + 1)) := by simp [hlt]
            have hidx : es1.findIdx? (fun e => (e.born : Int) == (clock : Int)) = some es.size := by
              rw [Array.findIdx?_eq_some_iff_getElem]
              refine ⟨by simp [es1], by simp [es1], fun j hj => ?_⟩
              have hj' : j < es.size := hj
              have hmem : es[j] ∈ es.toList := by simp
              have := hbo.1 es[j] hmem
              have he : es1[j]'(by simp [es1]; omega) = es[j] := by simp [es1, Array.getElem_push, hj']
              rw [he]; simp; omega
            refine ⟨.int vk 0, clock, { w with heap := w.heap.setIfInBounds L.blk (.map es1 (clock + 1)) }, _, ?_, ?_, st⟩
            · simp [Instr.mapEntry, run_underlying' ty.map, hget, hchk, hfind, hzr, run_setObj _ hblk, es1]
            · have hget1 : (getObj L.blk).run P { w with heap := w.heap.setIfInBounds L.blk (.map es1 (clock + 1)) } = .ok (.map es1 (clock + 1)) { w with heap := w.heap.setIfInBounds L.blk (.map es1 (clock + 1)) } := by simp [getObj, Sem.run, hlt]
              have hmod : es1.modify es.size (fun e => { e with val := V }) = es.push { key := keyVal ks agg k, val := V, born := clock } := by
                apply Array.ext_getElem?
                intro j
                rw [Array.getElem?_modify]
                by_cases hj : es.size = j
                · subst hj; simp [es1]
                · have hj' : ¬ j = es.size := fun e => hj e.symm
                  simp [es1, hj, hj', Array.getElem?_push]
              simp only [Instr.entryStore, Sem.run_bind, Result.andThen_ok, hget1, asInt, asIntOf, goInt, Sem.run_pure, hidx, run_setObj _ hb1, hmod]
              simp
          | some p =>
            obtain ⟨i, n0⟩ := p
            rw [hfo] at hfind
            obtain ⟨_, hi⟩ := findK_some kl 0 i n0 hfo
            simp only [Nat.sub_zero] at hi
            have hi2 : (es.toList.map (fun e => (e.key, e.val)))[i]? = some (keyVal ks agg k, .int vk n0) := by rw [hes]; simp [hi]
            simp only [List.getElem?_map] at hi2
            cases hei : es.toList[i]? with
            | none => simp [hei] at hi2
            | some e0 =>
              simp [hei] at hi2
              have hei' : es[i]? = some e0 := by simpa using hei
              have hilt : i < es.size := (Array.getElem?_eq_some_iff.1 hei').1
              have hei2 : es[i] = e0 := (Array.getElem?_eq_some_iff.1 hei').2
              have hstay : (Instr.keyThatStays (((es[i]?).map (·.key)).getD (keyVal ks agg k)) (keyVal ks agg k)).run P w = .ok (keyVal ks agg k) w := by
                simp [Instr.keyThatStays, hei', hi2.1, sameBits_key ty hw]
              have hW : (Instr.mapUpdate t (.map (some L.blk)) (keyVal ks agg k) V).run P w = .ok () { w with heap := w.heap.setIfInBounds L.blk (.map (es.modify i fun e => { e with key := keyVal ks agg k, val := V }) clock) } := by
                simp only [Instr.mapUpdate, Sem.run_bind, run_underlying' ty.map, Result.andThen_ok, hget, hchk, hfind, Option.map_some, hstay, run_setObj _ hblk]
              rw [hW] at hrun; cases hrun
              let es1 := es.modify i fun e => { e with key := keyVal ks agg k }
              have hb1 : ({ w with heap := w.heap.setIfInBounds L.blk (.map es1 clock) } : World).heap[L.blk]? = some (.map es1 clock) := by simp [hlt]
              have hborn : ∀ j (hj : j < es.size), (es1[j]'(by simp [es1]; omega)).born = es[j].born := by
                intro j hj
                simp only [es1, Array.getElem_modify]
                split <;> simp_all
              have hidx : es1.findIdx? (fun e => (e.born : Int) == (e0.born : Int)) = some i := by
                rw [Array.findIdx?_eq_some_iff_getElem]
                refine ⟨by simp [es1]; omega, by rw [hborn i hilt, hei2]; simp, fun j hj => ?_⟩
                have hjs : j < es.size := by omega
                rw [hborn j hjs]
                simp only [beq_iff_eq, Int.natCast_inj, Bool.not_eq_true, beq_eq_false_iff_ne, ne_eq]
                intro hbe
                have h1 : (es.toList.map (·.born))[j]? = some es[j].born := by simp [hjs]
                have h2 : (es.toList.map (·.born))[i]? = some es[j].born := by rw [List.getElem?_map, hei]; simp [hbe]
                have := (List.getElem?_inj (List.getElem?_eq_some_iff.1 h1).1 hbo.2).1 (h1.trans h2.symm)
                omega
              refine ⟨.int vk n0, e0.born, { w with heap := w.heap.setIfInBounds L.blk (.map es1 clock) }, _, ?_, ?_, st⟩
              · simp only [Instr.mapEntry, Sem.run_bind, run_underlying' ty.map, Result.andThen_ok, hget, hchk, hfind, Option.map_some, hstay, run_setObj _ hblk, Sem.run_pure]
                simp [hei', es1]
              · have hget1 : (getObj L.blk).run P { w with heap := w.heap.setIfInBounds L.blk (.map es1 clock) } = .ok (.map es1 clock) { w with heap := w.heap.setIfInBounds L.blk (.map es1 clock) } := by simp [getObj, Sem.run, hlt]
                have hmod : es1.modify i (fun e => { e with val := V }) = es.modify i fun e => { e with key := keyVal ks agg k, val := V } := by
                  apply Array.ext_getElem?
                  intro j
                  simp only [es1, Array.getElem?_modify]
                  by_cases hj : i = j
                  · subst hj; simp [hei']
                  · simp [hj]
                simp only [Instr.entryStore, Sem.run_bind, Result.andThen_ok, hget1, asInt, asIntOf, goInt, Sem.run_pure, hidx, run_setObj _ hb1, hmod]
                simp
      · cases e
    · cases e
  · cases e

end Go.Ev
namespace Go.Ev
theorem Ren.set_ne {ρ : Ren} {n m : Nat} {l : Loc} (h : m ≠ n) : ρ.set n l m = ρ m := by simp [Ren.set, h]
/-- A name for a number, no object of its own. -/
theorem name_step {P : Program} {ρ : Ren} {h : Hp} {w : World} (hr : HeapRep P ρ h.heap w) (hf : Fresh ρ h.nxt h.hi) (hlt : h.nxt < h.hi) (l : Loc) (hc : l.cap = 0) :
    Step P ρ h w (ρ.set h.nxt l) { h with nxt := h.nxt + 1 } w := by
  have hn : ρ h.nxt = none := hf _ (Nat.le_refl _) hlt
  have hle := Ren.le_set (l := l) hn
  have hne : ∀ n o, get h.heap n = some o → n ≠ h.nxt := fun n o e hh => by
    obtain ⟨l', hl'⟩ := hr.loc e
    rw [hh, hn] at hl'; cases hl'
  refine ⟨hle, fun n l' e1 e2 => ?_, ⟨fun n o e => ?_, fun n m o o' l1 l2 e1 e2 hnm hro h1 h2 => ?_⟩, Fr.refl _ _, fun n o l' e1 e2 e3 e4 => ?_⟩
  · by_cases hm : n = h.nxt
    · subst hm; exact ⟨Nat.le_refl _, Nat.lt_succ_self _⟩
    · rw [Ren.set_ne hm, e1] at e2; cases e2
  · obtain ⟨l', hl', ho⟩ := hr.1 n o e
    exact ⟨l', hle n l' hl', ho.keep hle (fun _ => rfl)⟩
  · rw [Ren.set_ne (hne n o e1)] at h1
    rw [Ren.set_ne (hne m o' e2)] at h2
    exact hr.2 n m o o' l1 l2 e1 e2 hnm hro h1 h2
  · rw [Ren.set_ne (hne n o e1)] at e2
    exact ⟨n, o, l', e1, rfl, e2, e3, rfl, .inl rfl⟩
end Go.Ev
