/-
  Parts, addresses, operators: the soundness of the evaluator, fifth part.
-/
import Derived.Test.YtmlfmmnnbdlabaaEvOps2
import Derived.ChangeKeysEq
set_option linter.unusedSimpArgs false
set_option linter.unusedVariables false
namespace Go.Ev

theorem addr_add (b o n : Nat) : (⟨b, o, none⟩ : Addr).add n = ⟨b, o + n, none⟩ := by unfold Addr.add; split <;> simp_all

theorem denL_take_drop {ρ : Ren} {l : List AV} {xs : List Value} (h : denL ρ l = some xs) (off n : Nat) : denL ρ ((l.drop off).take n) = some ((xs.drop off).take n) := by
  have hlen := denL_length _ _ h
  refine denL_of _ _ (by simp [hlen]) (fun k v hk => ?_)
  rw [List.getElem?_take] at hk ⊢
  split at hk
  · rename_i hkn
    rw [if_pos hkn, List.getElem?_drop]
    rw [List.getElem?_drop] at hk
    exact denL_get _ _ h _ v hk
  · cases hk

theorem part_ok {P : Program} {ρ : Ren} {w : World} {t : TypeId} {l : List AV} {off : Nat} {v : AV} {xs : List Value} (e : partA P t l off = some v) (hd : denL ρ l = some xs) :
    ∃ x, (part t xs.toArray off).run P w = .ok x w ∧ den ρ v = some x := by
  unfold partA at e
  split at e
  · rename_i n ha hn
    split at e
    · rename_i p hp
      cases e
      obtain ⟨hlen, rfl⟩ := takeN_eq _ _ _ hp
      rw [dropN_eq] at hlen ⊢
      refine ⟨.agg (xs.toArray.extract off (off + n)), ?_, ?_⟩
      · simp only [part, Sem.run_bind, run_isAgg ha, Result.andThen_ok, if_true, run_sizeOf hn, Sem.run_pure]
      · simp [den, denL_take_drop hd]
    · cases e
  · rename_i ha hn
    rw [nth_eq] at e
    obtain ⟨x, hx, hdx⟩ := denL_get _ _ hd _ v e
    refine ⟨x, ?_, hdx⟩
    simp [part, run_isAgg ha, hx]
  · cases e

theorem den_agg {ρ : Ren} {l : List AV} {x : Value} (h : den ρ (.agg l) = some x) : ∃ xs, denL ρ l = some xs ∧ x = .agg xs.toArray := by
  simp only [den] at h
  cases hl : denL ρ l with
  | none => simp [hl] at h
  | some l' => simp only [hl] at h; cases h; exact ⟨l', rfl, rfl⟩

theorem den_tup {ρ : Ren} {l : List AV} {x : Value} (h : den ρ (.tup l) = some x) : ∃ xs, denL ρ l = some xs ∧ x = .tuple xs.toArray := by
  simp only [den] at h
  cases hl : denL ρ l with
  | none => simp [hl] at h
  | some l' => simp only [hl] at h; cases h; exact ⟨l', rfl, rfl⟩

theorem relS_known {ρ : Ren} {v : AV} {x : Value} (h : relS ρ v x) (hk : v ≠ .top) : den ρ v = some x := relS_den h hk

theorem field_ok {P : Program} {ρ : Ren} {w : World} {t : TypeId} {v r : AV} {f : Nat} {x : Value} (e : fieldA P t v f = some r) (hx : relS ρ v x) : ∃ y, (Instr.field t x f).run P w = .ok y w ∧ den ρ r = some y := by
  unfold fieldA at e
  split at e
  · rename_i l fields hu
    split at e
    · rename_i fd hf
      rw [nth_eq, Array.getElem?_toList] at hf
      obtain ⟨xs, hxs, rfl⟩ := den_agg (relS_den hx (by simp))
      obtain ⟨y, hy, hd⟩ := part_ok (w := w) e hxs
      refine ⟨y, ?_, hd⟩
      simp [Instr.field, run_underlying' hu, hf, asAgg, hy]
    · cases e
  · cases e

theorem fieldAddr_ok {P : Program} {ρ : Ren} {w : World} {t : TypeId} {v r : AV} {f : Nat} {x : Value} (e : fieldAddrA P t v f = some r) (hx : relS ρ v x) : ∃ y, (Instr.fieldAt t x f).run P w = .ok y w ∧ den ρ r = some y := by
  unfold fieldAddrA at e
  split at e
  · rename_i b i j fields hu
    split at e
    · rename_i fd hf
      split at e
      · rename_i n hn
        cases e
        rw [nth_eq, Array.getElem?_toList] at hf
        obtain ⟨L, hL, hnil, rfl⟩ := den_ptr (relS_den hx (by simp))
        refine ⟨.pointer (some ⟨L.blk, L.base + i * L.wid + (j + fd.offset), none⟩), ?_, by simp [den, hL, hnil]⟩
        simp [Instr.fieldAt, run_underlying' hu, hf, Instr.sureAddr, fieldPlace, run_sizeOf hn, addr_add, Nat.add_assoc]
      · cases e
    · cases e
  · cases e

theorem int_of_lit {ρ : Ren} {v : AV} {x : Value} {m : Nat} (h : ∃ k, v = .int k (m : Int) ∨ v = .sym k (m : Int)) (hx : relS ρ v x) : ∃ k, x = .int k (m : Int) := by
  obtain ⟨k, rfl | rfl⟩ := h
  · have := relS_den hx (by simp); simp [den] at this; exact ⟨k, this.symm⟩
  · have := relS_den hx (by simp); simp [den] at this; exact ⟨k, this.symm⟩

/-- What a slice's value says. -/
theorem den_ss {ρ : Ren} {wd b off len : Nat} {c : Option Nat} {x : Value} (h : den ρ (.ss wd b off len c) = some x) : ∃ l, ρ b = some l ∧ l.wid = wd ∧
    ((l.isnil = true ∧ off = 0 ∧ len = 0 ∧ capOr c 0 = 0 ∧ x = .slice none 0 0) ∨
     (l.isnil = false ∧ len ≤ capOr c (l.cap - off) ∧ off + capOr c (l.cap - off) ≤ l.cap ∧ x = .slice (some ⟨l.blk, l.base + off * l.wid, none⟩) len (capOr c (l.cap - off)))) := by
  simp only [den] at h
  cases hb : ρ b with
  | none => simp [hb] at h
  | some l =>
    simp only [hb, Loc.slice] at h
    split at h
    · rename_i hw
      refine ⟨l, rfl, hw, ?_⟩
      cases hn : l.isnil with
      | true =>
        simp only [hn] at h
        split at h
        · rename_i hc; cases h; exact .inl ⟨rfl, hc.1, hc.2.1, hc.2.2, rfl⟩
        · cases h
      | false =>
        simp only [hn] at h
        split at h
        · rename_i hc; cases h; exact .inr ⟨rfl, hc.1, hc.2, rfl⟩
        · cases h
    · cases h

theorem den_xs {ρ : Ren} {wd b off len : Nat} {c : Option Nat} {x : Value} (h : den ρ (.xs wd b off len c) = some x) : ∃ l, ρ b = some l ∧ l.wid = wd ∧ l.isnil = false ∧
     len ≤ capOr c (l.cap - off) ∧ off + capOr c (l.cap - off) ≤ l.cap ∧ x = .slice (some ⟨l.blk, l.base + off * l.wid, none⟩) len (capOr c (l.cap - off)) := by
  simp only [den] at h
  cases hb : ρ b with
  | none => simp [hb] at h
  | some l =>
    simp only [hb] at h
    cases hn : l.isnil with
    | true => simp [hn] at h
    | false =>
      simp only [hn] at h
      have h' : den ρ (.ss wd b off len c) = some x := by simp only [den, hb]; exact h
      obtain ⟨l', hl', hw, hc | hc⟩ := den_ss h'
      · rw [hb] at hl'; cases hl'; rw [hn] at hc; exact absurd hc.1 (by simp)
      · rw [hb] at hl'; cases hl'; exact ⟨l, rfl, hw, hn, hc.2⟩

theorem indexAddr_ok {P : Program} {ρ : Ren} {w : World} {t : TypeId} {v ix r : AV} {h h' : Hp} (e : indexAddrA P t v ix h = some (r, h')) :
    Qt h h' ∧ r ≠ .top ∧ ((∀ p ∈ h'.ob, p) → ∀ x y, relS ρ v x → relS ρ ix y → ∃ z, (Instr.indexAt t x y).run P w = .ok z w ∧ den ρ r = some z) := by
  unfold indexAddrA at e
  split at e
  · rename_i wd b off len c el hu
    split at e
    · rename_i i h1 n hl hn
      split at e
      · rename_i hlt hw
        cases e
        obtain ⟨q, o⟩ := literal_qt hl
        refine ⟨q, by simp, fun ho x y hx hy => ?_⟩
        have hlt' : i < len := by simpa [Nat.blt_eq] using hlt
        have hw' := Nat.eq_of_beq_eq_true hw
        obtain ⟨k, rfl⟩ := int_of_lit (o ho) hy
        obtain ⟨L, hL, hwd, hnil, hcl, hcap, rfl⟩ := den_xs (relS_den hx (by simp))
        refine ⟨.pointer (some ⟨L.blk, L.base + (off + i) * L.wid + 0, none⟩), ?_, by simp [den, hL, hnil]⟩
        simp [Instr.indexAt, asIntOf, run_underlying' hu, run_sizeOf hn, addr_add]
        rw [if_pos (by omega)]
        simp [run_sizeOf hn, addr_add, hw', ← hwd, Nat.add_mul, Nat.add_assoc]
      · cases e
    · cases e
  · rename_i wd b off len c el hu
    split at e
    · rename_i i h1 n hl hn
      split at e
      · rename_i hw
        cases e
        obtain ⟨q, o⟩ := index_qt hl
        refine ⟨q, by simp, fun ho x y hx hy => ?_⟩
        have hw' := Nat.eq_of_beq_eq_true hw
        obtain ⟨hlt', hk⟩ := o ho
        obtain ⟨k, rfl⟩ := int_of_lit hk hy
        obtain ⟨L, hL, hwd, hc | ⟨hnil, hcl, hcap, rfl⟩⟩ := den_ss (relS_den hx (by simp))
        · omega
        refine ⟨.pointer (some ⟨L.blk, L.base + (off + i) * L.wid + 0, none⟩), ?_, by simp [den, hL, hnil]⟩
        simp [Instr.indexAt, asIntOf, run_underlying' hu, run_sizeOf hn, addr_add]
        rw [if_pos (by omega)]
        simp [run_sizeOf hn, addr_add, hw', ← hwd, Nat.add_mul, Nat.add_assoc]
      · cases e
    · cases e
  · rename_i b i j len el hu
    split at e
    · rename_i n h1 s hl hn
      split at e
      · rename_i hlt
        cases e
        obtain ⟨q, o⟩ := literal_qt hl
        refine ⟨q, by simp, fun ho x y hx hy => ?_⟩
        have hlt' : n < len := by simpa [Nat.blt_eq] using hlt
        obtain ⟨k, rfl⟩ := int_of_lit (o ho) hy
        obtain ⟨L, hL, hnil, rfl⟩ := den_ptr (relS_den hx (by simp))
        refine ⟨.pointer (some ⟨L.blk, L.base + i * L.wid + (j + n * s), none⟩), ?_, by simp [den, hL, hnil]⟩
        simp [Instr.indexAt, asIntOf, run_underlying' hu, Instr.sureAddr]
        rw [if_pos (by omega)]
        simp [run_sizeOf hn, addr_add, Nat.add_assoc]
      · cases e
    · cases e
  · cases e

theorem index_ok {P : Program} {ρ : Ren} {w : World} {t : TypeId} {v ix r : AV} {h h' : Hp} (e : indexA P t v ix h = some (r, h')) :
    Qt h h' ∧ ((∀ p ∈ h'.ob, p) → ∀ x y, relS ρ v x → relS ρ ix y → ∃ z, (Instr.index t x y).run P w = .ok z w ∧ den ρ r = some z) := by
  unfold indexA at e
  split at e
  · rename_i l len el hu
    split at e
    · rename_i i h1 n hl hn
      split at e
      · rename_i x0 hlt hp
        cases e
        obtain ⟨q, o⟩ := literal_qt hl
        refine ⟨q, fun ho x y hx hy => ?_⟩
        have hlt' : i < len := by simpa [Nat.blt_eq] using hlt
        obtain ⟨k, rfl⟩ := int_of_lit (o ho) hy
        obtain ⟨xs, hxs, rfl⟩ := den_agg (relS_den hx (by simp))
        obtain ⟨z, hz, hd⟩ := part_ok (w := w) hp hxs
        refine ⟨z, ?_, hd⟩
        simp [Instr.index, asIntOf, run_underlying' hu]
        rw [if_pos (by omega)]
        simp [run_sizeOf hn, hz]
      · cases e
    · cases e
  · cases e

/-! ### operators -/
theorem eqFields_ok {P : Program} {ρ : Ren} {w : World} {d : Nat} {eqv : TypeId → AV → AV → Option (Bool × Bool)}
    (ih : ∀ t x y c b X Y, eqv t x y = some (c, b) → den ρ x = some X → den ρ y = some Y → (Op.equalIn d t X Y).run P w = .ok b w) {l m : List AV} {xs ys : List Value} (hl : denL ρ l = some xs) (hm : denL ρ m = some ys) :
    ∀ (fs : List Field) (c b : Bool), eqFields P eqv l m fs = some (c, b) → (Op.eqFields d xs.toArray ys.toArray fs).run P w = .ok b w
  | [], c, b, e => by simp only [eqFields] at e; cases e; simp [Op.eqFields]
  | f :: r, c, b, e => by
    simp only [eqFields] at e
    split at e
    · rename_i a b' hn ha hb
      split at e
      · rename_i c1 p d1 q h1 h2
        cases e
        obtain ⟨x, hx, hdx⟩ := part_ok (w := w) ha hl
        obtain ⟨y, hy, hdy⟩ := part_ok (w := w) hb hm
        have hn' : f.name ≠ "_" := of_decide_eq_true hn
        have := ih _ _ _ _ _ _ _ h1 hdx hdy
        have hrest := eqFields_ok ih hl hm r _ _ h2
        simp only [Op.eqFields]
        rw [if_pos hn']
        simp only [Sem.run_bind, hx, hy, Result.andThen_ok, this]
        cases p
        · simp [and2]
        · simp [and2, hrest]
      · cases e
    · cases e

theorem eqItems_ok {P : Program} {ρ : Ren} {w : World} {d : Nat} {eqv : TypeId → AV → AV → Option (Bool × Bool)} {el : TypeId} {sz : Nat}
    (ih : ∀ t x y c b X Y, eqv t x y = some (c, b) → den ρ x = some X → den ρ y = some Y → (Op.equalIn d t X Y).run P w = .ok b w) {l m : List AV} {xs ys : List Value} (hl : denL ρ l = some xs) (hm : denL ρ m = some ys) :
    ∀ (is : List Nat) (c b : Bool), eqItemsA P eqv el sz l m is = some (c, b) → (Op.eqItems d el sz xs.toArray ys.toArray is).run P w = .ok b w
  | [], c, b, e => by simp only [eqItemsA] at e; cases e; simp [Op.eqItems]
  | i :: r, c, b, e => by
    simp only [eqItemsA] at e
    split at e
    · rename_i a b' ha hb
      split at e
      · rename_i c1 p d1 q h1 h2
        cases e
        obtain ⟨x, hx, hdx⟩ := part_ok (w := w) ha hl
        obtain ⟨y, hy, hdy⟩ := part_ok (w := w) hb hm
        have := ih _ _ _ _ _ _ _ h1 hdx hdy
        have hrest := eqItems_ok ih hl hm r _ _ h2
        simp only [Op.eqItems]
        simp only [Sem.run_bind, hx, hy, Result.andThen_ok, this]
        cases p
        · simp [and2]
        · simp [and2, hrest]
      · cases e
    · cases e

theorem eqA_ok {P : Program} {ρ : Ren} {w : World} : ∀ (d : Nat) (t : TypeId) (x y : AV) (c b : Bool) (X Y : Value), eqA P d t x y = some (c, b) → den ρ x = some X → den ρ y = some Y → (Op.equalIn d t X Y).run P w = .ok b w
  | 0, t, x, y, c, b, X, Y, e, _, _ => by simp [eqA] at e
  | d + 1, t, x, y, c, b, X, Y, e, hx, hy => by
    simp only [eqA] at e
    split at e
    · rename_i hu
      split at e
      · rename_i c1 a c2 b' h1 h2
        cases e
        obtain ⟨h1, _⟩ := asB_den (ρ := ρ) h1
        obtain ⟨h2, _⟩ := asB_den (ρ := ρ) h2
        rw [hx] at h1; rw [hy] at h2; cases h1; cases h2
        exact run_equalIn_bool' w d t _ _ hu
      · cases e
    · rename_i hu
      split at e
      · rename_i k c1 a k' c2 b' h1 h2
        split at e
        · rename_i hk
          cases e
          have hk := of_decide_eq_true hk; subst hk
          obtain ⟨h1, _⟩ := asI_den (ρ := ρ) h1
          obtain ⟨h2, _⟩ := asI_den (ρ := ρ) h2
          rw [hx] at h1; rw [hy] at h2; cases h1; cases h2
          exact run_equalIn_int w d t _ _ _ _ hu
        · cases e
      · cases e
    · rename_i fields hu
      split at e
      · rename_i l m
        split at e
        · cases e
        · rename_i hst
          obtain ⟨xs, hxs, rfl⟩ := den_agg hx
          obtain ⟨ys, hys, rfl⟩ := den_agg hy
          have hfo : P.fieldsOf t = fields := by simp [Program.fieldsOf, hu]
          rw [run_equalIn_struct w d t _ _ (by rw [hfo]; exact hu) hst, hfo]
          exact eqFields_ok (fun t x y c b X Y e hx hy => eqA_ok d t x y c b X Y e hx hy) hxs hys _ _ _ e
      · cases e
    · rename_i n el hu
      split at e
      · rename_i l m sz hsz
        obtain ⟨xs, hxs, rfl⟩ := den_agg hx
        obtain ⟨ys, hys, rfl⟩ := den_agg hy
        simp only [sizeT, Option.map_eq_some_iff] at hsz
        obtain ⟨i, hi, rfl⟩ := hsz
        rw [run_equalIn_array w d _ _ hu hi]
        have hc : P.cellsOf el = i.size := by simp [Program.cellsOf, hi]
        rw [hc]
        exact eqItems_ok (fun t x y c b X Y e hx hy => eqA_ok d t x y c b X Y e hx hy) hxs hys _ _ _ e
      · cases e
    · rename_i el hu
      split at e <;> cases e
      · simp [den] at hx hy; subst hx; subst hy; simp [Op.equalIn, run_underlying' hu]
      · obtain ⟨L, _, _, rfl⟩ := den_ptr hy; simp [den] at hx; subst hx; simp [Op.equalIn, run_underlying' hu]
      · obtain ⟨L, _, _, rfl⟩ := den_ptr hx; simp [den] at hy; subst hy; simp [Op.equalIn, run_underlying' hu]
    · rename_i el hu
      split at e <;> cases e
      · simp [den] at hx hy; subst hx; subst hy; simp [Op.equalIn, run_underlying' hu]
      · obtain ⟨L, _, _, _, _, _, rfl⟩ := den_xs hy; simp [den] at hx; subst hx; simp [Op.equalIn, run_underlying' hu]
      · obtain ⟨L, _, _, _, _, _, rfl⟩ := den_xs hx; simp [den] at hy; subst hy; simp [Op.equalIn, run_underlying' hu]
    · rename_i k el hu
      split at e <;> cases e
      · simp [den] at hx hy; subst hx; subst hy; simp [Op.equalIn, run_underlying' hu]
      · rename_i m
        simp only [den] at hx hy; cases hx
        cases hb : ρ m with
        | none => simp [hb] at hy
        | some l => simp only [hb] at hy; cases hy; simp [Op.equalIn, run_underlying' hu]
      · rename_i m
        simp only [den] at hx hy; cases hy
        cases hb : ρ m with
        | none => simp [hb] at hx
        | some l => simp only [hb] at hx; cases hx; simp [Op.equalIn, run_underlying' hu]
    · rename_i a1 a2 a3 hu
      split at e <;> cases e
      · simp [den] at hx hy; subst hx; subst hy; simp [Op.equalIn, run_underlying' hu]
      · rename_i f l m
        simp only [den] at hx hy; cases hx
        cases hl : denL ρ l with
        | none => simp [hl] at hy
        | some l' => cases hm : denL ρ m with
          | none => simp [hl, hm] at hy
          | some m' => simp only [hl, hm] at hy; cases hy; simp [Op.equalIn, run_underlying' hu]
      · rename_i f l m
        simp only [den] at hx hy; cases hy
        cases hl : denL ρ l with
        | none => simp [hl] at hx
        | some l' => cases hm : denL ρ m with
          | none => simp [hl, hm] at hx
          | some m' => simp only [hl, hm] at hx; cases hx; simp [Op.equalIn, run_underlying' hu]
    · rename_i ms hu
      split at e <;> cases e
      · rename_i t' v
        simp only [den] at hx hy; cases hx
        cases hl : den ρ v with
        | none => simp [hl] at hy
        | some l' => simp only [hl] at hy; cases hy; simp [Op.equalIn, run_underlying' hu]
      · rename_i t' v
        simp only [den] at hx hy; cases hy
        cases hl : den ρ v with
        | none => simp [hl] at hx
        | some l' => simp only [hl] at hx; cases hx; simp [Op.equalIn, run_underlying' hu]
    · cases e

end Go.Ev
