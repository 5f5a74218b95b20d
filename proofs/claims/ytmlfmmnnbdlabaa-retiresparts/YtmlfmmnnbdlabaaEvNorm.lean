/-
  Contracts that ask no more of closed values than of symbolic ones.
-/
import Derived.Test.YtmlfmmnnbdlabaaEvUse
set_option linter.unusedSimpArgs false
set_option linter.unusedVariables false
namespace Go.Ev

mutual
def nrmV : AV → AV
  | .int k n => .sym k n
  | .bool b => .symb b
  | .xs wd b o l c => .ss wd b o l c
  | .agg l => .agg (nrmL l)
  | .tup l => .tup (nrmL l)
  | v => v
def nrmL : List AV → List AV
  | [] => []
  | v :: r => nrmV v :: nrmL r
end

mutual
theorem nrmV_den {ρ : Ren} : ∀ (v : AV) (x : Value), den ρ v = some x → den ρ (nrmV v) = some x
  | .top, x, e => e
  | .int .., x, e => e
  | .sym .., x, e => e
  | .bool .., x, e => e
  | .symb .., x, e => e
  | .nilp, x, e => e
  | .ptr .., x, e => e
  | .nils, x, e => e
  | .xs wd b off len c, x, e => by
    simp only [nrmV, den] at e ⊢
    cases hb : ρ b with
    | none => simp [hb] at e
    | some l =>
      rw [hb] at e
      cases hn : l.isnil with
      | true => simp [hn] at e
      | false => simpa [hn] using e
  | .ss .., x, e => e
  | .nilm, x, e => e
  | .map .., x, e => e
  | .nilf, x, e => e
  | .func .., x, e => e
  | .nili, x, e => e
  | .iface .., x, e => e
  | .agg l, x, e => by
    simp only [nrmV, den] at e ⊢
    cases hl : denL ρ l with
    | none => simp [hl] at e
    | some xs => rw [hl] at e; rw [nrmL_den l xs hl]; exact e
  | .tup l, x, e => by
    simp only [nrmV, den] at e ⊢
    cases hl : denL ρ l with
    | none => simp [hl] at e
    | some xs => rw [hl] at e; rw [nrmL_den l xs hl]; exact e
  | .stamp .., x, e => e
  | .raw .., x, e => e
theorem nrmL_den {ρ : Ren} : ∀ (l : List AV) (xs : List Value), denL ρ l = some xs → denL ρ (nrmL l) = some xs
  | [], xs, e => e
  | v :: r, xs, e => by
    simp only [nrmL, denL] at e ⊢
    cases hv : den ρ v with
    | none => simp [hv] at e
    | some y => cases hr : denL ρ r with
      | none => simp [hv, hr] at e
      | some ys => rw [hv, hr] at e; rw [nrmV_den v y hv, nrmL_den r ys hr]; exact e
end

def nrmO : AO → AO
  | .cells wd l => .cells wd (nrmL l)
  | o => o

theorem nrmO_ro (o : AO) : (nrmO o).ro = o.ro := by cases o <;> rfl

theorem nrmL_get : ∀ (l : List AV) (j : Nat) v, (nrmL l)[j]? = some v → ∃ u, l[j]? = some u ∧ v = nrmV u
  | [], j, v, h => by simp [nrmL] at h
  | a :: r, 0, v, h => by simp [nrmL] at h; exact ⟨a, by simp, h.symm⟩
  | a :: r, j + 1, v, h => by simp [nrmL] at h; obtain ⟨u, hu, e⟩ := nrmL_get r j v h; exact ⟨u, by simpa using hu, e⟩
theorem nrmL_length : ∀ l : List AV, (nrmL l).length = l.length
  | [] => rfl
  | a :: r => by simp [nrmL, nrmL_length r]

theorem nrmO_rep {P : Program} {ρ : Ren} {w : World} {l : Loc} {o : AO} (h : ObjRep P ρ w l o) : ObjRep P ρ w l (nrmO o) := by
  cases o with
  | cells wd cs =>
    obtain ⟨h0, h1, h2, c, t, fr, hb, hf, hc, hc2, hv⟩ := h
    refine ⟨h0, h1, h2, c, t, fr, hb, hf, by rw [nrmL_length]; exact hc, hc2, fun j v hj => ?_⟩
    obtain ⟨u, hu, rfl⟩ := nrmL_get cs j v hj
    obtain ⟨x, hx, hr⟩ := hv j u hu
    refine ⟨x, hx, ?_⟩
    rcases hr with hr | hr
    · subst hr; exact .inl rfl
    · exact .inr (nrmV_den u x hr)
  | arr wd sh ro len f => exact h
  | map t f => exact h
  | mapP t f n k => exact h

def nrmH : List (Nat × AO) → List (Nat × AO)
  | [] => []
  | (n, o) :: r => (n, nrmO o) :: nrmH r

theorem nrmH_get : ∀ (h : List (Nat × AO)) (n : Nat) o, get (nrmH h) n = some o → ∃ o1, get h n = some o1 ∧ o = nrmO o1
  | [], n, o, e => by simp [nrmH, get] at e
  | (m, x) :: r, n, o, e => by
    simp only [nrmH, get] at e ⊢
    split at e
    · cases e; exact ⟨x, rfl, rfl⟩
    · exact nrmH_get r n o e
theorem nrmH_get' : ∀ (h : List (Nat × AO)) (n : Nat) o, get h n = some o → get (nrmH h) n = some (nrmO o)
  | [], n, o, e => by simp [get] at e
  | (m, x) :: r, n, o, e => by
    simp only [nrmH, get] at e ⊢
    split at e
    · cases e; rfl
    · exact nrmH_get' r n o e

theorem loc_nrm {P : Program} {f : FuncId} {la : List AV} {lh : List (Nat × AO)} {R : LR} (h : LocOk P f (nrmL la) (nrmH lh) R) : LocOk P f la lh R := by
  intro ρ w hob hr hf hg xs hx
  have hr' : HeapRep P ρ (nrmH lh) w := by
    refine ⟨fun n o e => ?_, fun n m o o' l l' e e' hne hro => ?_⟩
    · obtain ⟨o1, h1, rfl⟩ := nrmH_get _ _ _ e
      obtain ⟨l, hl, ho⟩ := hr.1 n o1 h1
      exact ⟨l, hl, nrmO_rep ho⟩
    · obtain ⟨o1, h1, rfl⟩ := nrmH_get _ _ _ e
      obtain ⟨o2, h2, rfl⟩ := nrmH_get _ _ _ e'
      rw [nrmO_ro, nrmO_ro] at hro
      exact hr.2 n m o1 o2 l l' h1 h2 hne hro
  refine (h ρ w hob hr' hf hg xs (nrmL_den _ _ hx)).mono fun e w' ⟨x, ρ', he, hv, st⟩ => ⟨x, ρ', he, hv, ?_⟩
  refine ⟨st.le, st.new, st.rep, st.fr.mono ?_, fun n o l h1 h2 h3 h4 => ?_⟩
  · rintro b ⟨m, hm, o, l, e1, e2, e3⟩
    obtain ⟨o1, h1, rfl⟩ := nrmH_get _ _ _ e1
    rw [nrmO_ro] at e2
    exact ⟨m, hm, o1, l, h1, e2, e3⟩
  · obtain ⟨m, o', l', e1, e2, e3⟩ := st.own n o l h1 h2 h3 h4
    obtain ⟨o1, g1, rfl⟩ := nrmH_get _ _ _ e1
    rw [nrmO_ro] at e2
    exact ⟨m, o1, l', g1, e2, e3⟩

/-- A contract over normal forms, for all. -/
def nrm (s : LSpec) : LSpec := fun la lh => s (nrmL la) (nrmH lh)

theorem nrm_ok {P : Program} {f : FuncId} {s : LSpec} (h : ∀ la lh R, s la lh = some R → LocOk P f la lh R) : ∀ la lh R, nrm s la lh = some R → LocOk P f la lh R :=
  fun la lh R e => loc_nrm (h _ _ R e)

end Go.Ev
