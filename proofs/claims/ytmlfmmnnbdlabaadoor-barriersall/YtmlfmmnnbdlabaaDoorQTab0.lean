/-
  QTab0 and what follows it.
-/
import Derived.Test.YtmlfmmnnbdlabaaDoorEvDoor
import Derived.Test.YtmlfmmnnbdlabaaDoorQMemDef
import Derived.Test.YtmlfmmnnbdlabaaDoorEvLoc2
/-
  The table of the fields that a barrier looks at.
-/
set_option linter.unusedSimpArgs false
set_option linter.unusedVariables false
namespace Go.Proofs.YtmlfmmnnbdlabaaDoor
open Go.Ev
def tab : List Value := [.int .i64 0, .int .i64 1, .int .i64 2, .int .i64 6]
end Go.Proofs.YtmlfmmnnbdlabaaDoor

/-
  A contract over closed values serves symbolic ones that are those very values.
-/
set_option linter.unusedSimpArgs false
set_option linter.unusedVariables false
namespace Go.Ev

mutual
def symV : AV → AV
  | .int k n => .sym k n
  | .bool b => .symb b
  | .agg l => .agg (symL l)
  | .tup l => .tup (symL l)
  | v => v
def symL : List AV → List AV
  | [] => []
  | v :: r => symV v :: symL r
end
mutual
theorem symV_den {ρ : Ren} : ∀ (v : AV), den ρ (symV v) = den ρ v
  | .top => rfl
  | .int .. => rfl
  | .sym .. => rfl
  | .bool .. => rfl
  | .symb .. => rfl
  | .nilp => rfl
  | .ptr .. => rfl
  | .nils => rfl
  | .xs .. => rfl
  | .ss .. => rfl
  | .nilm => rfl
  | .map .. => rfl
  | .nilf => rfl
  | .func .. => rfl
  | .nili => rfl
  | .iface .. => rfl
  | .agg l => by simp only [symV, den, symL_den l]
  | .tup l => by simp only [symV, den, symL_den l]
  | .stamp .. => rfl
  | .raw .. => rfl
theorem symL_den {ρ : Ren} : ∀ (l : List AV), denL ρ (symL l) = denL ρ l
  | [] => rfl
  | v :: r => by simp only [symL, denL, symV_den v, symL_den r]
end
theorem symV_top : ∀ {v : AV}, symV v = .top → v = .top
  | .top, _ => rfl
  | .int .., h => by cases h
  | .sym .., h => by cases h
  | .bool .., h => by cases h
  | .symb .., h => by cases h
  | .nilp, h => by cases h
  | .ptr .., h => by cases h
  | .nils, h => by cases h
  | .xs .., h => by cases h
  | .ss .., h => by cases h
  | .nilm, h => by cases h
  | .map .., h => by cases h
  | .nilf, h => by cases h
  | .func .., h => by cases h
  | .nili, h => by cases h
  | .iface .., h => by cases h
  | .agg l, h => by simp only [symV] at h; cases h
  | .tup l, h => by simp only [symV] at h; cases h
  | .stamp .., h => by cases h
  | .raw .., h => by cases h
def symO : AO → AO
  | .cells wd l => .cells wd (symL l)
  | o => o
theorem symO_ro (o : AO) : (symO o).ro = o.ro := by cases o <;> rfl
theorem symL_get : ∀ (l : List AV) (j : Nat) v, l[j]? = some v → (symL l)[j]? = some (symV v)
  | [], j, v, h => by simp at h
  | a :: r, 0, v, h => by simp at h; simp [symL, h]
  | a :: r, j + 1, v, h => by simp at h; simp [symL]; exact symL_get r j v h
theorem symL_length : ∀ l : List AV, (symL l).length = l.length
  | [] => rfl
  | a :: r => by simp [symL, symL_length r]
theorem symO_rep {P : Program} {ρ : Ren} {w : World} {l : Loc} {o : AO} (h : ObjRep P ρ w l (symO o)) : ObjRep P ρ w l o := by
  cases o with
  | cells wd cs =>
    obtain ⟨h0, h1, h2, c, t, fr, hb, hf, hc, hc2, hv⟩ := h
    refine ⟨h0, h1, h2, c, t, fr, hb, hf, by rw [symL_length] at hc; exact hc, hc2, fun j v hj => ?_⟩
    obtain ⟨x, hx, hr⟩ := hv j _ (symL_get cs j v hj)
    refine ⟨x, hx, ?_⟩
    rcases hr with hr | hr
    · exact .inl (symV_top hr)
    · exact .inr (by rw [← symV_den]; exact hr)
  | arr wd sh ro len f => exact h
  | map t f => exact h
  | mapP t f n k => exact h
def symH : List (Nat × AO) → List (Nat × AO)
  | [] => []
  | (n, o) :: r => (n, symO o) :: symH r
theorem symH_get : ∀ (h : List (Nat × AO)) (n : Nat) o, get h n = some o → get (symH h) n = some (symO o)
  | [], n, o, e => by simp [get] at e
  | (m, x) :: r, n, o, e => by
    simp only [symH, get] at e ⊢
    split at e
    · cases e; rfl
    · exact symH_get r n o e
theorem symH_get' : ∀ (h : List (Nat × AO)) (n : Nat) o, get (symH h) n = some o → ∃ o1, get h n = some o1 ∧ o = symO o1
  | [], n, o, e => by simp [symH, get] at e
  | (m, x) :: r, n, o, e => by
    simp only [symH, get] at e ⊢
    split at e
    · cases e; exact ⟨x, rfl, rfl⟩
    · exact symH_get' r n o e

theorem loc_sym {P : Program} {f : FuncId} {la : List AV} {lh : List (Nat × AO)} {R : LR} (h : LocOk P f la lh R) : LocOk P f (symL la) (symH lh) R := by
  intro ρ w hob hr hf hg xs hx
  have hr' : HeapRep P ρ lh w := by
    refine ⟨fun n o e => ?_, fun n m o o' l l' e e' hne hro => ?_⟩
    · obtain ⟨l, hl, ho⟩ := hr.1 n _ (symH_get _ _ _ e)
      exact ⟨l, hl, symO_rep ho⟩
    · exact hr.2 n m _ _ l l' (symH_get _ _ _ e) (symH_get _ _ _ e') hne (by rw [symO_ro, symO_ro]; exact hro)
  refine (h ρ w hob hr' hf hg xs (by rw [← symL_den]; exact hx)).mono fun e w' ⟨x, ρ', he, hv, st⟩ => ⟨x, ρ', he, hv, ?_⟩
  refine ⟨st.le, st.new, st.rep, st.fr.mono ?_, fun n o l h1 h2 h3 h4 => ?_⟩
  · rintro b ⟨m, hm, o, l, e1, e2, e3⟩
    exact ⟨m, hm, _, l, symH_get _ _ _ e1, by rw [symO_ro]; exact e2, e3⟩
  · obtain ⟨m, o', l', e1, e2, e3⟩ := st.own n o l h1 h2 h3 h4
    exact ⟨m, _, l', symH_get _ _ _ e1, by rw [symO_ro]; exact e2, e3⟩
theorem symL_get' : ∀ (l : List AV) (j : Nat) v, (symL l)[j]? = some v → ∃ u, l[j]? = some u ∧ v = symV u
  | [], j, v, h => by simp [symL] at h
  | a :: r, 0, v, h => by simp [symL] at h; exact ⟨a, by simp, h.symm⟩
  | a :: r, j + 1, v, h => by simp [symL] at h; obtain ⟨u, hu, e⟩ := symL_get' r j v h; exact ⟨u, by simpa using hu, e⟩
theorem symO_rep' {P : Program} {ρ : Ren} {w : World} {l : Loc} {o : AO} (h : ObjRep P ρ w l o) : ObjRep P ρ w l (symO o) := by
  cases o with
  | cells wd cs =>
    obtain ⟨h0, h1, h2, c, t, fr, hb, hf, hc, hc2, hv⟩ := h
    refine ⟨h0, h1, h2, c, t, fr, hb, hf, by rw [symL_length]; exact hc, hc2, fun j v hj => ?_⟩
    obtain ⟨u, hu, rfl⟩ := symL_get' cs j v hj
    obtain ⟨x, hx, hr⟩ := hv j u hu
    refine ⟨x, hx, ?_⟩
    rcases hr with hr | hr
    · subst hr; exact .inl rfl
    · exact .inr (by rw [symV_den]; exact hr)
  | arr wd sh ro len f => exact h
  | map t f => exact h
  | mapP t f n k => exact h
def symR (R : LR) : LR := ⟨R.k, R.v, symH R.heap, R.n, R.wr, R.ob⟩
theorem loc_symR {P : Program} {f : FuncId} {la : List AV} {lh : List (Nat × AO)} {R : LR} (h : LocOk P f la lh R) : LocOk P f (symL la) (symH lh) (symR R) := by
  intro ρ w hob hr hf hg xs hx
  refine (loc_sym h ρ w hob hr hf hg xs hx).mono fun e w' ⟨x, ρ', he, hv, st⟩ => ⟨x, ρ', he, hv, ?_⟩
  refine ⟨st.le, st.new, ⟨fun n o e => ?_, fun n m o o' l l' e e' hne hro => ?_⟩, st.fr, fun n o l h1 h2 h3 h4 => ?_⟩
  · obtain ⟨o1, h1, rfl⟩ := symH_get' _ _ _ e
    obtain ⟨l, hl, ho⟩ := st.rep.1 n o1 h1
    exact ⟨l, hl, symO_rep' ho⟩
  · obtain ⟨o1, h1, rfl⟩ := symH_get' _ _ _ e
    obtain ⟨o2, h2, rfl⟩ := symH_get' _ _ _ e'
    rw [symO_ro, symO_ro] at hro
    exact st.rep.2 n m o1 o2 l l' h1 h2 hne hro
  · obtain ⟨o1, g1, rfl⟩ := symH_get' _ _ _ h1
    obtain ⟨m, o', l', e1, e2, e3⟩ := st.own n o1 l g1 h2 h3 h4
    exact ⟨m, o', l', e1, by rw [symO_ro]; exact e2, e3⟩
/-- .. where the answer is written otherwise. -/
theorem loc_fit {P : Program} {f : FuncId} {la : List AV} {lh : List (Nat × AO)} {R R' : LR} (h : LocOk P f la lh R) (ho : ∀ p ∈ R.ob, p) (e : R' = ⟨R.k, R.v, R.heap, R.n, R.wr, R'.ob⟩) : LocOk P f la lh R' := by
  rw [e]
  intro ρ w _ hr hf hg xs hx
  exact h ρ w ho hr hf hg xs hx
/-- .. as an equation shows it. -/
theorem loc_sym' {P : Program} {f : FuncId} {la la' : List AV} {lh lh' : List (Nat × AO)} {R R' : LR} (h : LocOk P f la lh R) (e1 : symL la = la') (e2 : symH lh = lh') (e3 : R = R') : LocOk P f la' lh' R' := by
  subst e1; subst e2; subst e3; exact loc_sym h
end Go.Ev
