/-
  Tables: a Join, a Leave by one alone; the plain law of TablesFull.
-/
import Derived.Test.YtmndhjodbnojdaaDoorJTn
set_option linter.unusedSimpArgs false
set_option linter.unusedVariables false
namespace Go.Proofs.YtmndhjodbnojdaaDoor
open Go.Ev
/-! ### a Join, a Leave by one alone -/
def jOw (w : Int) : Int := IntKind.u64.wrap (IntKind.u64.wrap w + 1)
structure JI where
  S : MS
  o : JO
structure VI where
  S : MS
  o : VO
noncomputable def jdUp (x : JI) : JI := ⟨jnY x.S x.o, jnX x.S x.o⟩
noncomputable def ldUp (x : VI) : VI := ⟨lvY x.S x.o, lvX x.S x.o⟩
/-- A Join by one alone: i steps. -/
noncomputable def jdIt (S : MS) (w : Int) : Nat → JI
  | 0 => ⟨S, ⟨1, 0, 0, 0, jOw w, 0, 0, -1⟩⟩
  | i + 1 => jdUp (jdIt S w i)
noncomputable def ldIt (S : MS) (t : Int) : Nat → VI
  | 0 => ⟨S, ⟨1, IntKind.i64.wrap (t.tdiv 4), 0, 0, t⟩⟩
  | i + 1 => ldUp (ldIt S t i)
def JdAt (S : MS) (w : Int) (k : Nat) : Prop := 1 ≤ k ∧ k ≤ 40 ∧ (jdIt S w k).o.ln = 0 ∧ ∀ j, 1 ≤ j → j < k → ¬ (jdIt S w j).o.ln = 0
def LdAt (S : MS) (t : Int) (k : Nat) : Prop := 1 ≤ k ∧ k ≤ 40 ∧ (ldIt S t k).o.ln = 0 ∧ ∀ j, 1 ≤ j → j < k → ¬ (ldIt S t j).o.ln = 0
noncomputable def jdN0 (S : MS) (w : Int) : Nat := fnd (fun i => decide ((jdIt S w (i + 1)).o.ln = 0)) 40 + 1
noncomputable def ldN0 (S : MS) (t : Int) : Nat := fnd (fun i => decide ((ldIt S t (i + 1)).o.ln = 0)) 40 + 1
noncomputable def jdK : MS → Int → Nat := hide jdN0
noncomputable def ldK : MS → Int → Nat := hide ldN0
noncomputable def jdY : MS → Int → MS := hide (fun S w => (jdIt S w (jdN0 S w)).S)
noncomputable def ldY : MS → Int → MS := hide (fun S t => (ldIt S t (ldN0 S t)).S)
noncomputable def jdE : MS → Int → Int := hide (fun S w => (jdIt S w (jdN0 S w)).o.e)
noncomputable def ldE : MS → Int → Int := hide (fun S t => (ldIt S t (ldN0 S t)).o.e)
noncomputable def jdG : MS → Int → Int := hide (fun S w => if (jdIt S w (jdN0 S w)).o.e = 0 then (jdIt S w (jdN0 S w)).o.th else -1)
theorem jdK_eq (S : MS) (w : Int) : jdK S w = jdN0 S w := congrFun (congrFun (hide_eq jdN0) S) w
theorem ldK_eq (S : MS) (w : Int) : ldK S w = ldN0 S w := congrFun (congrFun (hide_eq ldN0) S) w
theorem jdY_eq (S : MS) (w : Int) : jdY S w = (jdIt S w (jdN0 S w)).S := congrFun (congrFun (hide_eq (fun (S : MS) (w : Int) => (jdIt S w (jdN0 S w)).S)) S) w
theorem ldY_eq (S : MS) (w : Int) : ldY S w = (ldIt S w (ldN0 S w)).S := congrFun (congrFun (hide_eq (fun (S : MS) (w : Int) => (ldIt S w (ldN0 S w)).S)) S) w
theorem jdE_eq (S : MS) (w : Int) : jdE S w = (jdIt S w (jdN0 S w)).o.e := congrFun (congrFun (hide_eq (fun (S : MS) (w : Int) => (jdIt S w (jdN0 S w)).o.e)) S) w
theorem ldE_eq (S : MS) (w : Int) : ldE S w = (ldIt S w (ldN0 S w)).o.e := congrFun (congrFun (hide_eq (fun (S : MS) (w : Int) => (ldIt S w (ldN0 S w)).o.e)) S) w
theorem jdG_eq (S : MS) (w : Int) : jdG S w = if (jdIt S w (jdN0 S w)).o.e = 0 then (jdIt S w (jdN0 S w)).o.th else -1 := congrFun (congrFun (hide_eq (fun (S : MS) (w : Int) => if (jdIt S w (jdN0 S w)).o.e = 0 then (jdIt S w (jdN0 S w)).o.th else -1)) S) w
theorem jdN0_eq {S : MS} {w : Int} {k : Nat} (h : JdAt S w k) : jdN0 S w = k := by
  obtain ⟨h1, h2, h3, h4⟩ := h
  have e : k - 1 + 1 = k := by omega
  unfold jdN0
  rw [fnd_eq (i := k - 1) (by omega) (decide_eq_true (by rw [e]; exact h3)) (fun j hj => decide_eq_false (h4 (j + 1) (by omega) (by omega)))]
  exact e
theorem ldN0_eq {S : MS} {w : Int} {k : Nat} (h : LdAt S w k) : ldN0 S w = k := by
  obtain ⟨h1, h2, h3, h4⟩ := h
  have e : k - 1 + 1 = k := by omega
  unfold ldN0
  rw [fnd_eq (i := k - 1) (by omega) (decide_eq_true (by rw [e]; exact h3)) (fun j hj => decide_eq_false (h4 (j + 1) (by omega) (by omega)))]
  exact e
structure JdOk (S : MS) (w : Int) : Prop where
  u : U64 S
  w0 : 0 ≤ w
  w1 : w < 4611686018427387904
  at_ : JdAt S w (jdN0 S w)
structure LdOk (S : MS) (t : Int) : Prop where
  u : U64 S
  t0 : 0 ≤ t
  t1 : t < 16
  at_ : LdAt S t (ldN0 S t)
/-! ### lines -/
theorem bkN_c {c : Nat} (h : c ≤ 4) : bkN (c : Int) = c := by unfold bkN; omega
theorem bkC_c {c : Nat} (h : c ≤ 4) : bkC (c : Int) = false := by
  unfold bkC
  have : (c : Int) / 4294967296 % 2 = 0 := by omega
  rw [this]; rfl
theorem bk_c (c : Int) : bk c false = c := by unfold bk; simp
theorem tmay5 : mayA 5 0 0 = true := by decide
theorem tmay7 {b : Int} (h0 : 0 ≤ b) (h1 : b < 4) : mayA 7 b 0 = true := by
  unfold mayA kAt kFl
  exact decide_eq_true ⟨by decide, h0, by simpa using h1, by decide, by decide⟩
theorem tmay8 {t f : Int} (h0 : 0 ≤ t) (h1 : t < 16) (f0 : 0 ≤ f) (f1 : f < 10) : mayA 8 t f = true := by
  unfold mayA kAt kFl
  exact decide_eq_true ⟨by decide, h0, by simpa using h1, f0, by simpa using f1⟩
theorem tcas_t {M : List Int → Option Int} {k a f w : Int} (hm : mayA k a f = true) (h : mget M (key k a f) = w) : casD M k a f w = true := by
  unfold casD; rw [h]; simp [hm]
theorem tcas_f {M : List Int → Option Int} {k a f w : Int} (h : mget M (key k a f) ≠ w) : casD M k a f w = false := by
  unfold casD
  have : (mget M (key k a f) == w) = false := by simpa using h
  rw [this]
theorem tcasM_t {M : List Int → Option Int} {k a f w v : Int} (h : casD M k a f w = true) : casM M k a f w v = memPut M k a f v := by rw [casM_put, if_pos h]
theorem tcasM_f {M : List Int → Option Int} {k a f w v : Int} (h : casD M k a f w = false) : casM M k a f w v = M := by rw [casM_put, if_neg (by rw [h]; decide)]
theorem tput {M : List Int → Option Int} {k a f v : Int} (h : mayA k a f = true) (k' a' f' : Int) : mget (memPut M k a f v) (key k' a' f') = if k' = k ∧ a' = a ∧ f' = f then v else mget M (key k' a' f') := by
  rw [mget_put]
  by_cases c : k' = k ∧ a' = a ∧ f' = f
  · rw [if_pos ⟨h, c⟩, if_pos c]
  · rw [if_neg (fun e => c e.2), if_neg c]
section
variable {S : MS} {bl wd e ow bs kk th : Int}
theorem jd1 {n : Nat} (hn : mget S.M (key 5 0 0) = n) (n1 : 1 ≤ n) (n4 : n ≤ 4) : jdUp ⟨S, ⟨1, bl, wd, e, ow, bs, kk, th⟩⟩ = ⟨mLoad S 5 0 0, ⟨2, bl, wd, e, ow, n, kk, th⟩⟩ := by
  have e1 : IntKind.i64.wrap (tBs (mget S.M (key 5 0 0))) = n := by rw [hn]; unfold tBs; rw [if_neg (by omega), i64w (by omega) (by omega)]
  unfold jdUp; rw [jnX_eq, jnY_eq]
  show JI.mk (mLoad S 5 0 0) (if IntKind.i64.wrap (tBs (mget S.M (key 5 0 0))) = 0 then _ else _) = _
  rw [e1, if_neg (by omega)]
abbrev opn (S : MS) (b : Int) : Prop := bkC (mget S.M (key 7 b 0)) = false ∧ bkN (mget S.M (key 7 b 0)) < 4
theorem jd2o (h : opn S bl) : jdUp ⟨S, ⟨2, bl, wd, e, ow, bs, kk, th⟩⟩ = ⟨mLoad S 7 bl 0, ⟨3, bl, mget S.M (key 7 bl 0), e, ow, bs, kk, th⟩⟩ := by
  unfold jdUp; rw [jnX_eq, jnY_eq]
  show JI.mk (mLoad S 7 bl 0) (if bkC (mget S.M (key 7 bl 0)) = false ∧ bkN (mget S.M (key 7 bl 0)) < 4 then _ else _) = _
  rw [if_pos (show bkC (mget S.M (key 7 bl 0)) = false ∧ bkN (mget S.M (key 7 bl 0)) < 4 from h)]
theorem jd2s {bl' : Int} (h : ¬ opn S bl) (hb : IntKind.i64.wrap (bl + 1) = bl') (hne : bl' ≠ bs) : jdUp ⟨S, ⟨2, bl, wd, e, ow, bs, kk, th⟩⟩ = ⟨mLoad S 7 bl 0, ⟨2, bl', mget S.M (key 7 bl 0), e, ow, bs, kk, th⟩⟩ := by
  subst hb
  unfold jdUp; rw [jnX_eq, jnY_eq]
  show JI.mk (mLoad S 7 bl 0) (if bkC (mget S.M (key 7 bl 0)) = false ∧ bkN (mget S.M (key 7 bl 0)) < 4 then _ else if IntKind.i64.wrap (bl + 1) = bs then _ else _) = _
  rw [if_neg (show ¬ (bkC (mget S.M (key 7 bl 0)) = false ∧ bkN (mget S.M (key 7 bl 0)) < 4) from h), if_neg hne]
theorem jd2f {bl' : Int} (h : ¬ opn S bl) (hb : IntKind.i64.wrap (bl + 1) = bl') (hne : bl' = bs) : jdUp ⟨S, ⟨2, bl, wd, e, ow, bs, kk, th⟩⟩ = ⟨mLoad S 7 bl 0, ⟨0, bl', mget S.M (key 7 bl 0), 5, ow, bs, kk, th⟩⟩ := by
  subst hb
  unfold jdUp; rw [jnX_eq, jnY_eq]
  show JI.mk (mLoad S 7 bl 0) (if bkC (mget S.M (key 7 bl 0)) = false ∧ bkN (mget S.M (key 7 bl 0)) < 4 then _ else if IntKind.i64.wrap (bl + 1) = bs then _ else _) = _
  rw [if_neg (show ¬ (bkC (mget S.M (key 7 bl 0)) = false ∧ bkN (mget S.M (key 7 bl 0)) < 4) from h), if_pos hne]
theorem jd3 (h : casD S.M 7 bl 0 wd = true) : jdUp ⟨S, ⟨3, bl, wd, e, ow, bs, kk, th⟩⟩ = ⟨mCas S 7 bl 0 wd (bk (tMore wd) (bkC wd)), ⟨4, bl, wd, e, ow, bs, 0, th⟩⟩ := by
  unfold jdUp; rw [jnX_eq, jnY_eq]
  show JI.mk (mCas S 7 bl 0 wd (bk (tMore wd) (bkC wd))) (if casD S.M 7 bl 0 wd = true then _ else _) = _
  rw [if_pos h]
theorem jd4o {t : Int} (ht : IntKind.i64.wrap (IntKind.i64.wrap (bl * 4) + kk) = t) (h : casD S.M 8 t 0 0 = true) : jdUp ⟨S, ⟨4, bl, wd, e, ow, bs, kk, th⟩⟩ = ⟨mCas S 8 t 0 0 ow, ⟨5, bl, wd, e, ow, bs, 1, t⟩⟩ := by
  subst ht
  unfold jdUp; rw [jnX_eq, jnY_eq]
  show JI.mk (mCas S 8 _ 0 0 ow) (if casD S.M 8 (jTh ⟨4, bl, wd, e, ow, bs, kk, th⟩) 0 0 = true then _ else _) = _
  have h' : casD S.M 8 (jTh ⟨4, bl, wd, e, ow, bs, kk, th⟩) 0 0 = true := h
  rw [if_pos h']; rfl
theorem jd4s {t k' : Int} (ht : IntKind.i64.wrap (IntKind.i64.wrap (bl * 4) + kk) = t) (h : casD S.M 8 t 0 0 = false) (hk : IntKind.i64.wrap (kk + 1) = k') (hk4 : k' ≠ 4) : jdUp ⟨S, ⟨4, bl, wd, e, ow, bs, kk, th⟩⟩ = ⟨mCas S 8 t 0 0 ow, ⟨4, bl, wd, e, ow, bs, k', th⟩⟩ := by
  subst ht; subst hk
  unfold jdUp; rw [jnX_eq, jnY_eq]
  show JI.mk (mCas S 8 _ 0 0 ow) (if casD S.M 8 (jTh ⟨4, bl, wd, e, ow, bs, kk, th⟩) 0 0 = true then _ else if IntKind.i64.wrap (kk + 1) = 4 then _ else _) = _
  have h' : casD S.M 8 (jTh ⟨4, bl, wd, e, ow, bs, kk, th⟩) 0 0 = false := h
  rw [h', if_neg (by decide), if_neg hk4]; rfl
theorem jd5 {k' : Int} (hk : IntKind.i64.wrap (kk + 1) = k') (h : k' ≠ 10) : jdUp ⟨S, ⟨5, bl, wd, e, ow, bs, kk, th⟩⟩ = ⟨mStore S 8 th kk 0, ⟨5, bl, wd, e, ow, bs, k', th⟩⟩ := by
  subst hk
  unfold jdUp; rw [jnX_eq, jnY_eq]
  show JI.mk (mStore S 8 th kk 0) (if IntKind.i64.wrap (kk + 1) = 10 then _ else _) = _
  rw [if_neg h]
theorem jd5e {k' : Int} (hk : IntKind.i64.wrap (kk + 1) = k') (h : k' = 10) : jdUp ⟨S, ⟨5, bl, wd, e, ow, bs, kk, th⟩⟩ = ⟨mStore S 8 th kk 0, ⟨0, bl, wd, 0, ow, bs, k', th⟩⟩ := by
  subst hk
  unfold jdUp; rw [jnX_eq, jnY_eq]
  show JI.mk (mStore S 8 th kk 0) (if IntKind.i64.wrap (kk + 1) = 10 then _ else _) = _
  rw [if_pos h]
theorem ld1a (h : mget S.M (key 8 th 0) = 0) : ldUp ⟨S, ⟨1, bl, wd, e, th⟩⟩ = ⟨mLoad S 8 th 0, ⟨0, bl, wd, 6, th⟩⟩ := by
  unfold ldUp; rw [lvX_eq, lvY_eq]
  show VI.mk (mLoad S 8 th 0) (if mget S.M (key 8 th 0) = 0 then _ else _) = _
  rw [if_pos h]
theorem ld1b (h : mget S.M (key 8 th 0) ≠ 0) : ldUp ⟨S, ⟨1, bl, wd, e, th⟩⟩ = ⟨mLoad S 8 th 0, ⟨2, bl, wd, e, th⟩⟩ := by
  unfold ldUp; rw [lvX_eq, lvY_eq]
  show VI.mk (mLoad S 8 th 0) (if mget S.M (key 8 th 0) = 0 then _ else _) = _
  rw [if_neg h]
theorem ld2 (h : mget S.M (key 8 th 1) = 0) : ldUp ⟨S, ⟨2, bl, wd, e, th⟩⟩ = ⟨mLoad S 8 th 1, ⟨3, bl, wd, e, th⟩⟩ := by
  unfold ldUp; rw [lvX_eq, lvY_eq]
  show VI.mk (mLoad S 8 th 1) (if mget S.M (key 8 th 1) = 0 then _ else _) = _
  rw [if_pos h]
theorem ld3 : ldUp ⟨S, ⟨3, bl, wd, e, th⟩⟩ = ⟨mStore S 8 th 6 0, ⟨4, bl, wd, e, th⟩⟩ := by
  unfold ldUp; rw [lvX_eq, lvY_eq]; rfl
theorem ld4 : ldUp ⟨S, ⟨4, bl, wd, e, th⟩⟩ = ⟨mStore S 8 th 0 0, ⟨5, bl, wd, e, th⟩⟩ := by
  unfold ldUp; rw [lvX_eq, lvY_eq]; rfl
theorem ld5 : ldUp ⟨S, ⟨5, bl, wd, e, th⟩⟩ = ⟨mLoad S 7 bl 0, ⟨6, bl, mget S.M (key 7 bl 0), e, th⟩⟩ := by
  unfold ldUp; rw [lvX_eq, lvY_eq]; rfl
theorem ld6 (h : casD S.M 7 bl 0 wd = true) : ldUp ⟨S, ⟨6, bl, wd, e, th⟩⟩ = ⟨mCas S 7 bl 0 wd (bk (tLess wd) (bkC wd)), ⟨0, bl, wd, 0, th⟩⟩ := by
  unfold ldUp; rw [lvX_eq, lvY_eq]
  show VI.mk (mCas S 7 bl 0 wd (bk (tLess wd) (bkC wd))) (if casD S.M 7 bl 0 wd = true then _ else _) = _
  rw [if_pos h]
end
/-- i steps of a Join, that is not over yet. -/
def JR (S : MS) (w : Int) (i : Nat) (y : JI) : Prop := jdIt S w i = y ∧ ∀ j, 1 ≤ j → j ≤ i → ¬ (jdIt S w j).o.ln = 0
theorem JR.step {S : MS} {w : Int} {i : Nat} {y y' : JI} (h : JR S w i y) (e : jdUp y = y') (n : ¬ y'.o.ln = 0) : JR S w (i + 1) y' := by
  have e1 : jdIt S w (i + 1) = y' := by show jdUp (jdIt S w i) = _; rw [h.1, e]
  refine ⟨e1, fun j j1 j2 => ?_⟩
  by_cases c : j ≤ i
  · exact h.2 j j1 c
  · obtain rfl : j = i + 1 := by omega
    rw [e1]; exact n
theorem JR.end_ {S : MS} {w : Int} {i : Nat} {y y' : JI} (h : JR S w i y) (e : jdUp y = y') (n : y'.o.ln = 0) (hi : i < 40) : JdAt S w (i + 1) ∧ jdIt S w (i + 1) = y' := by
  have e1 : jdIt S w (i + 1) = y' := by show jdUp (jdIt S w i) = _; rw [h.1, e]
  exact ⟨⟨by omega, by omega, by rw [e1]; exact n, fun j j1 j2 => h.2 j j1 (by omega)⟩, e1⟩
theorem jd_looks {S : MS} {n : Nat} {w : Int} (hn : mget S.M (key 5 0 0) = n) (n1 : 1 ≤ n) (n4 : n ≤ 4) : ∀ b : Nat, b < n → (∀ b' : Nat, b' < b → ¬ opn S b') → ∃ S' wd, JR S w (b + 1) ⟨S', ⟨2, b, wd, 0, jOw w, n, 0, -1⟩⟩ ∧ S'.M = S.M
  | 0, _, _ => ⟨mLoad S 5 0 0, 0, ⟨jd1 hn n1 n4, fun j j1 j2 => by
      obtain rfl : j = 1 := by omega
      have : jdIt S w 1 = _ := jd1 hn n1 n4
      rw [this]; show ¬ (2 : Int) = 0; decide⟩, rfl⟩
  | b + 1, hb, hc => by
    obtain ⟨S', wd, h1, h2⟩ := jd_looks hn n1 n4 b (by omega) (fun b' hb' => hc b' (by omega))
    have ho : ¬ opn S' b := by unfold opn; rw [h2]; exact hc b (by omega)
    refine ⟨_, _, h1.step (jd2s (bl' := ((b + 1 : Nat) : Int)) ho (by rw [i64w (by omega) (by omega)]; omega) (by omega)) (by show ¬ (2 : Int) = 0; decide), h2⟩
def on (x : Int) : Nat := if x = 0 then 0 else 1
def cn (ow : Nat → Int) (b : Nat) : Nat := on (ow (4 * b)) + on (ow (4 * b + 1)) + on (ow (4 * b + 2)) + on (ow (4 * b + 3))
def upd (ow : Nat → Int) (t : Nat) (w : Int) : Nat → Int := fun x => if x = t then w else ow x
theorem on_le (x : Int) : on x ≤ 1 := by unfold on; split <;> omega
theorem on_1 {x : Int} (h : x ≠ 0) : on x = 1 := by unfold on; rw [if_neg h]
theorem cn_le (ow : Nat → Int) (b : Nat) : cn ow b ≤ 4 := by
  have := on_le (ow (4 * b)); have := on_le (ow (4 * b + 1)); have := on_le (ow (4 * b + 2)); have := on_le (ow (4 * b + 3))
  unfold cn; omega
theorem cn_upd (ow : Nat → Int) (t : Nat) (w : Int) (b : Nat) : cn (upd ow t w) b + (if b = t / 4 then on (ow t) else 0) = cn ow b + (if b = t / 4 then on w else 0) := by
  have key : ∀ j, on (upd ow t w j) = if j = t then on w else on (ow j) := fun j => by unfold upd; split <;> rfl
  unfold cn
  rw [key, key, key, key]
  by_cases c : b = t / 4
  · rw [if_pos c, if_pos c]
    have h4 : t = 4 * b ∨ t = 4 * b + 1 ∨ t = 4 * b + 2 ∨ t = 4 * b + 3 := by omega
    clear c key
    rcases h4 with e | e | e | e <;> subst e
    · rw [if_pos rfl, if_neg (by omega), if_neg (by omega), if_neg (by omega)]; omega
    · rw [if_neg (by omega), if_pos rfl, if_neg (by omega), if_neg (by omega)]; omega
    · rw [if_neg (by omega), if_neg (by omega), if_pos rfl, if_neg (by omega)]; omega
    · rw [if_neg (by omega), if_neg (by omega), if_neg (by omega), if_pos rfl]; omega
  · rw [if_neg c, if_neg c, if_neg (by omega), if_neg (by omega), if_neg (by omega), if_neg (by omega)]
/-- A table of n blocks, of which block sh is closed (none: sh = n). -/
structure TB (S : MS) (n sh : Nat) (ow : Nat → Int) : Prop where
  u : U64 S
  bn : mget S.M (key 5 0 0) = n
  n1 : 1 ≤ n
  n4 : n ≤ 4
  bs : ∀ b : Nat, b < n → b ≠ sh → mget S.M (key 7 b 0) = cn ow b
  cl : sh < n → mget S.M (key 7 sh 0) = 4294967296
  ow : ∀ t : Nat, t < 16 → mget S.M (key 8 t 0) = ow t
  inn : ∀ t : Nat, t < 16 → mget S.M (key 8 t 1) = 0
theorem tb_opn {S : MS} {n sh : Nat} {ow : Nat → Int} (h : TB S n sh ow) {b : Nat} (hb : b < n) : opn S b ↔ b ≠ sh ∧ cn ow b < 4 := by
  have hc := cn_le ow b
  unfold opn
  by_cases e : b = sh
  · subst e
    rw [h.cl hb]
    constructor
    · intro q; exact absurd q.1 (by decide)
    · intro q; exact absurd rfl q.1
  · rw [h.bs b hb e, bkC_c hc, bkN_c hc]
    constructor
    · intro q; exact ⟨e, by have := q.2; omega⟩
    · intro q; exact ⟨rfl, by have := q.2; omega⟩
theorem jOw_eq {w : Int} (w0 : 0 ≤ w) (w1 : w < 4611686018427387904) : jOw w = w + 1 := by
  unfold jOw; rw [u64w (x := w) w0 (by omega), u64w (by omega) (by omega)]
/-- What a Join by one alone does, that gets thread 4 b + k. -/
structure JGets (S : MS) (n sh : Nat) (ow : Nat → Int) (w : Int) (t : Nat) : Prop where
  ok : JdOk S w
  e : jdE S w = 0
  g : jdG S w = t
  tb : TB (jdY S w) n sh (upd ow t (w + 1))
  cl : ∀ f : Int, 1 ≤ f → f < 10 → mget (jdY S w).M (key 8 t f) = 0
theorem tb_join {S : MS} {n sh : Nat} {ow : Nat → Int} {w : Int} {b k : Nat} (h : TB S n sh ow) (w0 : 0 ≤ w) (w1 : w < 4611686018427387904) (hb : b < n) (hbs : b ≠ sh) (hfull : ∀ b', b' < b → b' = sh ∨ cn ow b' = 4) (hk : k < 4) (hown : ∀ k', k' < k → ow (4 * b + k') ≠ 0) (hfree : ow (4 * b + k) = 0) : JGets S n sh ow w (4 * b + k) := by
  have n4 := h.n4
  have hv := jOw_eq w0 w1
  have hc0 := cn_upd ow (4 * b + k) (w + 1) b
  rw [if_pos (by omega), if_pos (by omega), on_1 (by omega : w + 1 ≠ 0)] at hc0
  have hon : on (ow (4 * b + k)) = 0 := by unfold on; rw [if_pos hfree]
  rw [hon] at hc0
  have hcl := cn_le (upd ow (4 * b + k) (w + 1)) b
  have hcn : cn ow b < 4 := by omega
  obtain ⟨S1, wd1, j1, e1⟩ := jd_looks (w := w) h.bn h.n1 h.n4 b hb (fun b' hb' q => by
    have := (tb_opn h (show b' < n by omega)).1 q
    rcases hfull b' hb' with c | c
    · exact this.1 c
    · omega)
  have hbw : mget S.M (key 7 b 0) = cn ow b := h.bs b hb hbs
  have j2 := j1.step (jd2o (S := S1) (bl := b) (by unfold opn; rw [e1]; exact (tb_opn h hb).2 ⟨hbs, hcn⟩)) (by show ¬ (3 : Int) = 0; decide)
  rw [e1, hbw] at j2
  have hm7 := tmay7 (b := b) (by omega) (by omega)
  have hcas : casD (mLoad S1 7 b 0).M 7 b 0 (cn ow b) = true := tcas_t hm7 (by show mget S1.M _ = _; rw [e1, hbw])
  have j3 := j2.step (jd3 hcas) (by show ¬ (4 : Int) = 0; decide)
  have hwd : bk (tMore (cn ow b)) (bkC (cn ow b)) = ((cn ow b + 1 : Nat) : Int) := by
    rw [bkC_c (by omega), bk_c]
    unfold tMore
    rw [bkN_c (by omega), u32m]; omega
  rw [hwd] at j3
  generalize hS3 : mCas (mLoad S1 7 b 0) 7 b 0 (cn ow b) ((cn ow b + 1 : Nat) : Int) = S3 at j3
  have m3 : S3.M = memPut S.M 7 b 0 ((cn ow b + 1 : Nat) : Int) := by
    rw [← hS3]
    show casM (mLoad S1 7 b 0).M _ _ _ _ _ = _
    rw [tcasM_t hcas]
    show memPut S1.M _ _ _ _ = _
    rw [e1]
  have g3 : ∀ kk a f, mget S3.M (key kk a f) = if kk = 7 ∧ a = b ∧ f = 0 then ((cn ow b + 1 : Nat) : Int) else mget S.M (key kk a f) := fun kk a f => by rw [m3, tput hm7]
  have ow3 : ∀ t : Nat, t < 16 → mget S3.M (key 8 t 0) = ow t := fun t ht => by rw [g3, if_neg (by omega)]; exact h.ow t ht
  have hth : ∀ k' : Nat, k' < 4 → IntKind.i64.wrap (IntKind.i64.wrap ((b : Int) * 4) + (k' : Int)) = ((4 * b + k' : Nat) : Int) := fun k' hk' => by
    rw [i64w (x := (b : Int) * 4) (by omega) (by omega), i64w (by omega) (by omega)]; omega
  have j4 : ∀ k', k' ≤ k → ∃ S', JR S w (b + 1 + 1 + 1 + k') ⟨S', ⟨4, b, cn ow b, 0, jOw w, n, k', -1⟩⟩ ∧ S'.M = S3.M := by
    intro k'
    induction k' with
    | zero => intro _; exact ⟨S3, j3, rfl⟩
    | succ k' ih =>
      intro hk'
      obtain ⟨S', a1, a2⟩ := ih (by omega)
      have hcf : casD S'.M 8 ((4 * b + k' : Nat) : Int) 0 0 = false := tcas_f (by rw [a2, ow3 _ (by omega)]; exact hown k' (by omega))
      refine ⟨_, a1.step (jd4s (hth k' (by omega)) hcf (k' := ((k' + 1 : Nat) : Int)) (by rw [i64w (by omega) (by omega)]; omega) (by omega)) (by show ¬ (4 : Int) = 0; decide), ?_⟩
      show casM S'.M _ _ _ _ _ = _
      rw [tcasM_f hcf, a2]
  obtain ⟨S4, a1, a2⟩ := j4 k (Nat.le_refl _)
  have hm8 : mayA 8 ((4 * b + k : Nat) : Int) 0 = true := tmay8 (by omega) (by omega) (by decide) (by decide)
  have hct : casD S4.M 8 ((4 * b + k : Nat) : Int) 0 0 = true := tcas_t hm8 (by rw [a2, ow3 _ (by omega)]; exact hfree)
  have j5 := a1.step (jd4o (hth k hk) hct) (by show ¬ (5 : Int) = 0; decide)
  generalize hS5 : mCas S4 8 ((4 * b + k : Nat) : Int) 0 0 (jOw w) = S5 at j5
  generalize ht : 4 * b + k = t at *
  have g5 : ∀ kk a f, mget S5.M (key kk a f) = if kk = 8 ∧ a = t ∧ f = 0 then w + 1 else mget S3.M (key kk a f) := fun kk a f => by
    rw [← hS5]
    show mget (casM S4.M _ _ _ _ _) _ = _
    rw [tcasM_t hct, tput hm8, a2, hv]
  have u5 : U64 S5 := by
    rw [← hS5]
    refine U64.cas ?_ _ _ _ _ _ (by omega)
    intro q
    rw [a2, m3]
    exact (U64.store h.u 7 b 0 ((cn ow b + 1 : Nat) : Int) (by omega)) q
  have j6 : ∀ j : Nat, j ≤ 8 → ∃ S', JR S w (b + 1 + 1 + 1 + k + 1 + j) ⟨S', ⟨5, b, cn ow b, 0, jOw w, n, ((1 + j : Nat) : Int), t⟩⟩ ∧ U64 S' ∧ (∀ kk a f, mget S'.M (key kk a f) = if kk = 8 ∧ a = t ∧ 1 ≤ f ∧ f < 1 + j then 0 else mget S5.M (key kk a f)) := by
    intro j
    induction j with
    | zero => intro _; exact ⟨S5, j5, u5, fun kk a f => by rw [if_neg (by omega)]⟩
    | succ j ih =>
      intro hj
      obtain ⟨S', b1, b2, b3⟩ := ih (by omega)
      refine ⟨_, b1.step (jd5 (k' := ((1 + (j + 1) : Nat) : Int)) (by rw [i64w (by omega) (by omega)]; omega) (by omega)) (by show ¬ (5 : Int) = 0; decide), b2.store _ _ _ _ (by decide), fun kk a f => ?_⟩
      show mget (memPut S'.M 8 t ((1 + j : Nat) : Int) 0) _ = _
      rw [tput (tmay8 (by omega) (by omega) (by omega) (by omega)), b3]
      by_cases c : kk = 8 ∧ a = t ∧ f = ((1 + j : Nat) : Int)
      · rw [if_pos c, if_pos (by omega)]
      · rw [if_neg c]
        by_cases d : kk = 8 ∧ a = t ∧ 1 ≤ f ∧ f < 1 + (j : Int)
        · rw [if_pos d, if_pos (by omega)]
        · rw [if_neg d, if_neg (by omega)]
  obtain ⟨S8, b1, b2, b3⟩ := j6 8 (Nat.le_refl _)
  obtain ⟨hat, hit⟩ := b1.end_ (jd5e (k' := 10) (by decide) rfl) rfl (by omega)
  have hN := jdN0_eq hat
  have eY : jdY S w = mStore S8 8 t ((1 + 8 : Nat) : Int) 0 := by rw [jdY_eq, hN, hit]
  have gY : ∀ kk a f, mget (jdY S w).M (key kk a f) = if kk = 8 ∧ a = t ∧ 1 ≤ f ∧ f < 10 then 0 else if kk = 8 ∧ a = t ∧ f = 0 then w + 1 else if kk = 7 ∧ a = b ∧ f = 0 then ((cn ow b + 1 : Nat) : Int) else mget S.M (key kk a f) := by
    intro kk a f
    rw [eY]
    show mget (memPut S8.M 8 t ((1 + 8 : Nat) : Int) 0) _ = _
    rw [tput (tmay8 (by omega) (by omega) (by omega) (by omega)), b3, g5, g3]
    by_cases c : kk = 8 ∧ a = t ∧ 1 ≤ f ∧ f < 10
    · rw [if_pos c]
      by_cases d : f = 9
      · rw [if_pos (by omega)]
      · rw [if_neg (by omega), if_pos (by omega)]
    · rw [if_neg c, if_neg (by omega), if_neg (by omega)]
  refine ⟨⟨h.u, w0, w1, by rw [hN]; exact hat⟩, ?_, ?_, ⟨?_, ?_, h.n1, h.n4, ?_, ?_, ?_, ?_⟩, ?_⟩
  · rw [jdE_eq, hN, hit]
  · rw [jdG_eq, hN, hit]; rfl
  · rw [eY]; exact b2.store _ _ _ _ (by decide)
  · rw [gY, if_neg (by omega), if_neg (by omega), if_neg (by omega)]; exact h.bn
  · intro b' hb' hs'
    have hc := cn_upd ow t (w + 1) b'
    rw [gY, if_neg (by omega), if_neg (by omega)]
    by_cases c : b' = b
    · subst c
      rw [if_pos ⟨rfl, rfl, rfl⟩]; omega
    · rw [if_neg (by omega), h.bs b' hb' hs']
      rw [if_neg (by omega), if_neg (by omega)] at hc
      omega
  · intro hs
    rw [gY, if_neg (by omega), if_neg (by omega), if_neg (by omega)]; exact h.cl hs
  · intro t' ht'
    rw [gY, if_neg (by omega)]
    unfold upd
    by_cases c : t' = t
    · rw [if_pos (by omega), if_pos c]
    · rw [if_neg (by omega), if_neg (by omega), if_neg c]; exact h.ow t' ht'
  · intro t' ht'
    rw [gY]
    by_cases c : t' = t
    · rw [if_pos (by omega)]
    · rw [if_neg (by omega), if_neg (by omega), if_neg (by omega)]; exact h.inn t' ht'
  · intro f f0 f1
    rw [gY, if_pos ⟨rfl, rfl, f0, f1⟩]
/-- .. and where all is full. -/
structure JFull (S : MS) (n sh : Nat) (ow : Nat → Int) (w : Int) : Prop where
  ok : JdOk S w
  e : jdE S w = 5
  tb : TB (jdY S w) n sh ow
theorem TB.same {S S' : MS} {n sh : Nat} {ow : Nat → Int} (h : TB S n sh ow) (e : S'.M = S.M) : TB S' n sh ow := by
  obtain ⟨h1, h2, h3, h4, h5, h6, h7, h8⟩ := h
  refine ⟨fun q => by rw [e]; exact h1 q, by rw [e]; exact h2, h3, h4, fun b q r => by rw [e]; exact h5 b q r, fun q => by rw [e]; exact h6 q, fun t q => by rw [e]; exact h7 t q, fun t q => by rw [e]; exact h8 t q⟩
theorem tb_full {S : MS} {n sh : Nat} {ow : Nat → Int} {w : Int} (h : TB S n sh ow) (w0 : 0 ≤ w) (w1 : w < 4611686018427387904) (hfull : ∀ b', b' < n → b' = sh ∨ cn ow b' = 4) : JFull S n sh ow w := by
  have n4 := h.n4
  have n1 := h.n1
  have hno : ∀ b' : Nat, b' < n → ¬ opn S b' := fun b' hb' q => by
    have := (tb_opn h hb').1 q
    rcases hfull b' hb' with c | c
    · exact this.1 c
    · omega
  obtain ⟨S1, wd1, j1, e1⟩ := jd_looks (w := w) h.bn h.n1 h.n4 (n - 1) (by omega) (fun b' hb' => hno b' (by omega))
  have hno1 : ¬ opn S1 ((n - 1 : Nat) : Int) := by unfold opn; rw [e1]; exact hno (n - 1) (by omega)
  obtain ⟨hat, hit⟩ := j1.end_ (jd2f (bl' := n) hno1 (by rw [i64w (by omega) (by omega)]; omega) rfl) rfl (by omega)
  have hN := jdN0_eq hat
  refine ⟨⟨h.u, w0, w1, by rw [hN]; exact hat⟩, ?_, ?_⟩
  · rw [jdE_eq, hN, hit]
  · rw [jdY_eq, hN, hit]; exact h.same e1
structure LGoes (S : MS) (n sh : Nat) (ow : Nat → Int) (t : Nat) : Prop where
  ok : LdOk S t
  e : ldE S t = 0
  tb : TB (ldY S t) n sh (upd ow t 0)
structure LNone (S : MS) (n sh : Nat) (ow : Nat → Int) (t : Nat) : Prop where
  ok : LdOk S t
  e : ldE S t = 6
  tb : TB (ldY S t) n sh ow
theorem tb_none {S : MS} {n sh : Nat} {ow : Nat → Int} {t : Nat} (h : TB S n sh ow) (ht : t < 16) (hz : ow t = 0) : LNone S n sh ow t := by
  have e1 : ldIt S t 1 = _ := ld1a (S := S) (by rw [h.ow t ht]; exact hz)
  have hat : LdAt S t 1 := ⟨by omega, by omega, by rw [e1], fun j j1 j2 => by omega⟩
  have hN := ldN0_eq hat
  refine ⟨⟨h.u, by omega, by omega, by rw [hN]; exact hat⟩, ?_, ?_⟩
  · rw [ldE_eq, hN, e1]
  · rw [ldY_eq, hN, e1]; exact h.same rfl
theorem tb_leave {S : MS} {n sh : Nat} {ow : Nat → Int} {t : Nat} (h : TB S n sh ow) (ht : t < 4 * n) (hs : t / 4 ≠ sh) (hz : ow t ≠ 0) : LGoes S n sh ow t := by
  have n4 := h.n4
  have hm8 : ∀ f : Int, 0 ≤ f → f < 10 → mayA 8 (t : Int) f = true := fun f f0 f1 => tmay8 (by omega) (by omega) f0 f1
  have hbl : IntKind.i64.wrap ((t : Int).tdiv 4) = ((t / 4 : Nat) : Int) := by
    rw [Int.tdiv_eq_ediv_of_nonneg (by omega), i64w (by omega) (by omega)]; omega
  have e1 : ldIt S t 1 = _ := ld1b (S := S) (by rw [h.ow t (by omega)]; exact hz)
  have e2 : ldIt S t 2 = _ := (congrArg ldUp e1).trans (ld2 (by show mget S.M _ = _; exact h.inn t (by omega)))
  have e3 : ldIt S t 3 = _ := (congrArg ldUp e2).trans ld3
  have e4 : ldIt S t 4 = _ := (congrArg ldUp e3).trans ld4
  have e5 : ldIt S t 5 = _ := (congrArg ldUp e4).trans ld5
  rw [hbl] at e1 e2 e3 e4 e5
  have hcn := cn_le ow (t / 4)
  have hm7 := tmay7 (b := ((t / 4 : Nat) : Int)) (by omega) (by omega)
  have hw : mget (mStore (mStore (mLoad (mLoad S 8 t 0) 8 t 1) 8 t 6 0) 8 t 0 0).M (key 7 ((t / 4 : Nat) : Int) 0) = cn ow (t / 4) := by
    show mget (memPut (memPut S.M 8 t 6 0) 8 t 0 0) _ = _
    rw [tput (hm8 0 (by decide) (by decide)), if_neg (by omega), tput (hm8 6 (by decide) (by decide)), if_neg (by omega)]
    exact h.bs (t / 4) (by omega) hs
  rw [hw] at e5
  have hc : casD (mLoad (mStore (mStore (mLoad (mLoad S 8 t 0) 8 t 1) 8 t 6 0) 8 t 0 0) 7 ((t / 4 : Nat) : Int) 0).M 7 ((t / 4 : Nat) : Int) 0 (cn ow (t / 4)) = true := tcas_t hm7 hw
  have e6 : ldIt S t 6 = _ := (congrArg ldUp e5).trans (ld6 hc)
  have hat : LdAt S t 6 := ⟨by omega, by omega, by rw [e6], fun j j1 j2 => by
    have : j = 1 ∨ j = 2 ∨ j = 3 ∨ j = 4 ∨ j = 5 := by omega
    rcases this with rfl | rfl | rfl | rfl | rfl
    · rw [e1]; show ¬ (2 : Int) = 0; decide
    · rw [e2]; show ¬ (3 : Int) = 0; decide
    · rw [e3]; show ¬ (4 : Int) = 0; decide
    · rw [e4]; show ¬ (5 : Int) = 0; decide
    · rw [e5]; show ¬ (6 : Int) = 0; decide⟩
  have hN := ldN0_eq hat
  have hc0 := cn_upd ow t 0 (t / 4)
  rw [if_pos rfl, if_pos rfl, on_1 hz, show on 0 = 0 from rfl] at hc0
  have hwd : bk (tLess (cn ow (t / 4))) (bkC (cn ow (t / 4))) = ((cn ow (t / 4) - 1 : Nat) : Int) := by
    rw [bkC_c hcn, bk_c]
    unfold tLess
    rw [bkN_c hcn, if_pos (by omega)]; omega
  rw [hwd] at e6
  have gY : ∀ kk a f, mget (ldY S t).M (key kk a f) = if kk = 7 ∧ a = ((t / 4 : Nat) : Int) ∧ f = 0 then ((cn ow (t / 4) - 1 : Nat) : Int) else if kk = 8 ∧ a = t ∧ (f = 0 ∨ f = 6) then 0 else mget S.M (key kk a f) := by
    intro kk a f
    rw [ldY_eq, hN, e6]
    show mget (casM _ _ _ _ _ _) _ = _
    rw [tcasM_t hc, tput hm7]
    by_cases c : kk = 7 ∧ a = ((t / 4 : Nat) : Int) ∧ f = 0
    · rw [if_pos c, if_pos c]
    · rw [if_neg c, if_neg c]
      show mget (memPut (memPut S.M 8 t 6 0) 8 t 0 0) _ = _
      rw [tput (hm8 0 (by decide) (by decide)), tput (hm8 6 (by decide) (by decide))]
      by_cases d : kk = 8 ∧ a = t ∧ (f = 0 ∨ f = 6)
      · rw [if_pos d]
        by_cases d1 : f = 0
        · rw [if_pos (by omega)]
        · rw [if_neg (by omega), if_pos (by omega)]
      · rw [if_neg d, if_neg (by omega), if_neg (by omega)]
  refine ⟨⟨h.u, by omega, by omega, by rw [hN]; exact hat⟩, ?_, ⟨?_, ?_, h.n1, h.n4, ?_, ?_, ?_, ?_⟩⟩
  · rw [ldE_eq, hN, e6]
  · rw [ldY_eq, hN, e6]
    exact U64.cas (U64.store (U64.store h.u _ _ _ _ (by decide)) _ _ _ _ (by decide)) _ _ _ _ _ (by omega)
  · rw [gY, if_neg (by omega), if_neg (by omega)]; exact h.bn
  · intro b' hb' hs'
    have hc := cn_upd ow t 0 b'
    rw [gY]
    by_cases c : b' = t / 4
    · subst c
      rw [if_pos ⟨rfl, rfl, rfl⟩]; omega
    · rw [if_neg (by omega), if_neg (by omega), h.bs b' hb' hs']
      rw [if_neg c, if_neg c] at hc
      omega
  · intro q
    rw [gY, if_neg (by omega), if_neg (by omega)]; exact h.cl q
  · intro t' ht'
    rw [gY, if_neg (by omega)]
    unfold upd
    by_cases c : t' = t
    · rw [if_pos (by omega), if_pos c]
    · rw [if_neg (by omega), if_neg c]; exact h.ow t' ht'
  · intro t' ht'
    rw [gY, if_neg (by omega), if_neg (by omega)]; exact h.inn t' ht'
/-! ### TablesFull: a word that stood there; the table fills; who leaves makes room -/
theorem TB.stored {S : MS} {n sh : Nat} {ow : Nat → Int} (h : TB S n sh ow) {t f w : Int} (hf : 2 ≤ f) (hw : 0 ≤ w ∧ w < 18446744073709551616) : TB (mStore S 8 t f w) n sh ow := by
  have g : ∀ k a q, ¬ (k = 8 ∧ q = f) → mget (mStore S 8 t f w).M (key k a q) = mget S.M (key k a q) := fun k a q c => by
    show mget (memPut S.M 8 t f w) _ = _
    rw [mget_put, if_neg (fun e => c ⟨e.2.1, e.2.2.2⟩)]
  obtain ⟨h1, h2, h3, h4, h5, h6, h7, h8⟩ := h
  exact ⟨h1.store _ _ _ _ hw, by rw [g _ _ _ (by omega)]; exact h2, h3, h4, fun b q r => by rw [g _ _ _ (by omega)]; exact h5 b q r, fun q => by rw [g _ _ _ (by omega)]; exact h6 q, fun t q => by rw [g _ _ _ (by omega)]; exact h7 t q, fun t q => by rw [g _ _ _ (by omega)]; exact h8 t q⟩
noncomputable def ov8 (S : MS) (t w : Int) : MS := mStore (mStore (mStore (mStore (mStore (mStore (mStore (mStore S 8 t 2 w) 8 t 3 w) 8 t 4 w) 8 t 5 w) 8 t 6 w) 8 t 7 w) 8 t 8 w) 8 t 9 w
noncomputable def ovS (S : MS) (w : Int) (i : Nat) : MS := match decide (mget S.M (key 8 (Int.ofNat i) 0) = 0) with
  | true => ov8 (mLoad S 8 (Int.ofNat i) 0) (Int.ofNat i) w
  | false => mLoad S 8 (Int.ofNat i) 0
noncomputable def ovN (w : Int) (S : MS) : Nat → MS
  | 0 => S
  | i + 1 => ovS (ovN w S i) w i
theorem TB.ovN {S : MS} {n sh : Nat} {ow : Nat → Int} (h : TB S n sh ow) {w : Int} (hw : 0 ≤ w ∧ w < 18446744073709551616) : ∀ i, TB (ovN w S i) n sh ow
  | 0 => h
  | i + 1 => by
    have ih := TB.ovN h hw i
    show TB (ovS _ w i) n sh ow
    unfold ovS
    split
    · unfold ov8
      exact ((((((((ih.same (S' := mLoad _ _ _ _) rfl).stored (by decide) hw).stored (by decide) hw).stored (by decide) hw).stored (by decide) hw).stored (by decide) hw).stored (by decide) hw).stored (by decide) hw).stored (by decide) hw
    · exact ih.same rfl
noncomputable def ovX : Int → MS → MS := hide (fun w S => ovN w S 16)
theorem ovX_eq (w : Int) (S : MS) : ovX w S = ovN w S 16 := congrFun (congrFun (hide_eq (fun w S => ovN w S 16)) w) S
structure FI where
  S : MS
  sn : Nat → Bool
noncomputable def ld9 (S : MS) (t : Int) : MS := mLoad (mLoad (mLoad (mLoad (mLoad (mLoad (mLoad (mLoad (mLoad S 8 t 1) 8 t 2) 8 t 3) 8 t 4) 8 t 5) 8 t 6) 8 t 7) 8 t 8) 8 t 9
noncomputable def fiY (x : FI) (w : Int) (i : Nat) : MS := jdY (ovX w x.S) (Int.ofNat i)
noncomputable def fiG (x : FI) (w : Int) (i : Nat) : Int := jdG (ovX w x.S) (Int.ofNat i)
noncomputable def fiU (x : FI) (w : Int) (i : Nat) : FI := ⟨ld9 (fiY x w i) (fiG x w i), fun q => if q = (fiG x w i).toNat then true else x.sn q⟩
/-- i joined. -/
noncomputable def fiN (w : Int) (S : MS) : Nat → FI
  | 0 => ⟨S, fun _ => false⟩
  | i + 1 => fiU (fiN w S i) w i
def thr (sh i : Nat) : Nat := if i < 4 * sh then i else i + 4
def idx (sh t : Nat) : Nat := if t < 4 * sh then t else t - 4
def owF (sh i : Nat) : Nat → Int := fun t => if t / 4 = sh then 0 else if idx sh t < i then (idx sh t : Int) + 1 else 0
theorem owF_upd (sh i : Nat) : upd (owF sh i) (thr sh i) ((i : Int) + 1) = owF sh (i + 1) := by
  funext t
  unfold upd owF
  by_cases c : t = thr sh i
  · rw [if_pos c]
    unfold thr at c
    have e : ¬ t / 4 = sh := by split at c <;> omega
    have e2 : idx sh t = i := by unfold idx; split at c <;> split <;> omega
    rw [if_neg e, e2, if_pos (by omega)]
  · rw [if_neg c]
    by_cases e : t / 4 = sh
    · rw [if_pos e, if_pos e]
    · rw [if_neg e, if_neg e]
      have e2 : idx sh t ≠ i := fun q => c (by unfold idx at q; unfold thr; split at q <;> split <;> omega)
      by_cases d : idx sh t < i
      · rw [if_pos d, if_pos (by omega)]
      · rw [if_neg d, if_neg (by omega)]
theorem owF_on {sh i t : Nat} (h1 : t / 4 ≠ sh) (h2 : idx sh t < i) : owF sh i t ≠ 0 := by unfold owF; rw [if_neg h1, if_pos h2]; omega
theorem cn_4 {ow : Nat → Int} {b : Nat} (h : ∀ j, j < 4 → ow (4 * b + j) ≠ 0) : cn ow b = 4 := by
  unfold cn
  rw [on_1 (show ow (4 * b) ≠ 0 from h 0 (by omega)), on_1 (h 1 (by omega)), on_1 (h 2 (by omega)), on_1 (h 3 (by omega))]
def roomN (n sh : Nat) : Nat := if sh < n then 4 * n - 4 else 4 * n
structure FiR (x : FI) (w : Int) (n sh i : Nat) : Prop where
  ok : JdOk (ovX w x.S) (Int.ofNat i)
  e : jdE (ovX w x.S) (Int.ofNat i) = 0
  g : fiG x w i = (thr sh i : Nat)
  t4 : thr sh i < 4 * n
  ts : thr sh i / 4 ≠ sh
  sn : x.sn (thr sh i) = false
  cl : ∀ f : Int, 1 ≤ f → f < 10 → mget (fiY x w i).M (key 8 (thr sh i : Nat) f) = 0
structure FiIs (x : FI) (n sh i : Nat) : Prop where
  tb : TB x.S n sh (owF sh i)
  sn : ∀ q, q < 16 → x.sn q = decide (owF sh i q ≠ 0)
theorem fi_step {x : FI} {w : Int} {n sh i : Nat} (h : FiIs x n sh i) (hw : 0 ≤ w ∧ w < 18446744073709551616) (hs : sh ≤ n) (hi : i < roomN n sh) : FiR x w n sh i ∧ FiIs (fiU x w i) n sh (i + 1) := by
  have n4 := h.tb.n4
  have ht : thr sh i < 4 * n ∧ thr sh i / 4 ≠ sh := by unfold thr roomN at *; split <;> split at hi <;> omega
  have hx : idx sh (thr sh i) = i := by
    by_cases c : i < 4 * sh
    · rw [thr, if_pos c, idx, if_pos c]
    · rw [thr, if_neg c, idx, if_neg (by omega)]; omega
  have hz : owF sh i (thr sh i) = 0 := by unfold owF; rw [if_neg ht.2, hx, if_neg (by omega)]
  have htb : TB (ovX w x.S) n sh (owF sh i) := by rw [ovX_eq]; exact h.tb.ovN hw 16
  have lt : ∀ t, t < thr sh i → t / 4 ≠ sh → idx sh t < i := fun t h1 h2 => by
    unfold idx thr at *; split <;> split at h1 <;> omega
  have et : 4 * (thr sh i / 4) + thr sh i % 4 = thr sh i := by omega
  have hj := tb_join (w := Int.ofNat i) (b := thr sh i / 4) (k := thr sh i % 4) htb (by simp) (by simp; unfold roomN at hi; split at hi <;> omega) (by omega) ht.2 (fun b' hb' => by
      by_cases c : b' = sh
      · exact .inl c
      · exact .inr (cn_4 (fun j hj => owF_on (by omega) (lt _ (by omega) (by omega))))) (by omega) (fun k' hk' => owF_on (by omega) (lt _ (by omega) (by omega))) (by rw [et]; exact hz)
  rw [et] at hj
  have hg : fiG x w i = (thr sh i : Nat) := hj.g
  refine ⟨⟨hj.ok, hj.e, hg, ht.1, ht.2, ?_, hj.cl⟩, ⟨?_, fun q hq => ?_⟩⟩
  · rw [h.sn _ (by omega), hz]; rfl
  · have := hj.tb
    rw [show (Int.ofNat i) + 1 = (i : Int) + 1 from rfl, owF_upd] at this
    exact this.same rfl
  · show (if q = (fiG x w i).toNat then true else x.sn q) = _
    rw [hg, Int.toNat_natCast, ← owF_upd]
    unfold upd
    by_cases c : q = thr sh i
    · rw [if_pos c, if_pos c]; exact (decide_eq_true (by omega)).symm
    · rw [if_neg c, if_neg c]; exact h.sn q hq
theorem fi_all {S : MS} {w : Int} {n sh : Nat} (h : TB S n sh (fun _ => 0)) (hw : 0 ≤ w ∧ w < 18446744073709551616) (hs : sh ≤ n) : ∀ i, i ≤ roomN n sh → FiIs (fiN w S i) n sh i
  | 0, _ => ⟨by
      have e : owF sh 0 = fun _ => 0 := by funext t; unfold owF; rw [if_neg (show ¬ idx sh t < 0 by omega)]; split <;> rfl
      rw [e]; exact h, fun q _ => by
      have e : owF sh 0 q = 0 := by unfold owF; rw [if_neg (show ¬ idx sh q < 0 by omega)]; split <;> rfl
      rw [e]; rfl⟩
  | i + 1, hi => (fi_step (fi_all h hw hs i (by omega)) hw hs (by omega)).2
theorem fi_r {S : MS} {w : Int} {n sh : Nat} (h : TB S n sh (fun _ => 0)) (hw : 0 ≤ w ∧ w < 18446744073709551616) (hs : sh ≤ n) {i : Nat} (hi : i < roomN n sh) : FiR (fiN w S i) w n sh i := (fi_step (fi_all h hw hs i (by omega)) hw hs hi).1
/-- All threads but those of the closed block have owners. -/
structure Fu (S : MS) (n sh : Nat) : Prop where
  ex : ∃ ow, TB S n sh ow ∧ (∀ t, t < 4 * n → t / 4 ≠ sh → ow t ≠ 0) ∧ ∀ t, t < 16 → t / 4 = sh → ow t = 0
theorem fi_fu {S : MS} {w : Int} {n sh : Nat} (h : TB S n sh (fun _ => 0)) (hw : 0 ≤ w ∧ w < 18446744073709551616) (hs : sh ≤ n) : Fu (fiN w S (roomN n sh)).S n sh ∧ ∀ q, q < 4 * n → (fiN w S (roomN n sh)).sn q = decide (q / 4 ≠ sh) := by
  have hf := fi_all h hw hs (roomN n sh) (Nat.le_refl _)
  have n4 := h.n4
  have hon : ∀ t, t < 4 * n → t / 4 ≠ sh → owF sh (roomN n sh) t ≠ 0 := fun t h1 h2 => owF_on h2 (by unfold idx roomN; split <;> split <;> omega)
  have hoff : ∀ t, t / 4 = sh → owF sh (roomN n sh) t = 0 := fun t h2 => by unfold owF; rw [if_pos h2]
  refine ⟨⟨_, hf.tb, hon, fun t _ => hoff t⟩, fun q hq => ?_⟩
  rw [hf.sn q (by omega)]
  by_cases c : q / 4 = sh
  · rw [hoff q c]; simp [c]
  · simp [hon q hq c, c]
theorem Fu.full {S : MS} {n sh : Nat} (h : Fu S n sh) {w : Int} (w0 : 0 ≤ w) (w1 : w < 4611686018427387904) : JdOk S w ∧ jdE S w = 5 ∧ Fu (jdY S w) n sh := by
  obtain ⟨ow, h1, h2, h3⟩ := h.ex
  have n4 := h1.n4
  have := tb_full h1 w0 w1 (fun b' hb' => by
    by_cases c : b' = sh
    · exact .inl c
    · exact .inr (cn_4 (fun j hj => h2 _ (by omega) (by omega))))
  exact ⟨this.ok, this.e, ⟨ow, this.tb, h2, h3⟩⟩
/-- A thread leaves, and is joined again. -/
structure LvR (S : MS) (t : Nat) (n sh : Nat) : Prop where
  ok : LdOk S t
  e : ldE S t = 0
  ok1 : JdOk (ldY S t) 5
  e1 : jdE (ldY S t) 5 = 0
  g1 : jdG (ldY S t) 5 = t
  ok2 : JdOk (jdY (ldY S t) 5) 5
  e2 : jdE (jdY (ldY S t) 5) 5 = 5
  fu : Fu (jdY (jdY (ldY S t) 5) 5) n sh
theorem Fu.leaves {S : MS} {n sh : Nat} (h : Fu S n sh) {t : Nat} (ht : t < 4 * n) (hs : t / 4 ≠ sh) : LvR S t n sh := by
  obtain ⟨ow, h1, h2, h3⟩ := h.ex
  have n4 := h1.n4
  have hl := tb_leave h1 ht hs (h2 t ht hs)
  have et : 4 * (t / 4) + t % 4 = t := by omega
  have hne : ∀ q, q ≠ t → upd ow t 0 q = ow q := fun q c => by unfold upd; rw [if_neg c]
  have hj := tb_join (w := 5) (b := t / 4) (k := t % 4) hl.tb (by decide) (by decide) (by omega) hs (fun b' hb' => by
      by_cases c : b' = sh
      · exact .inl c
      · exact .inr (cn_4 (fun j hj => by rw [hne _ (by omega)]; exact h2 _ (by omega) (by omega)))) (by omega) (fun k' hk' => by rw [hne _ (by omega)]; exact h2 _ (by omega) (by omega)) (by rw [et]; unfold upd; rw [if_pos rfl])
  rw [et] at hj
  have hfu : Fu (jdY (ldY S t) 5) n sh := ⟨_, hj.tb, fun q q1 q2 => by
      unfold upd
      by_cases c : q = t
      · rw [if_pos c]; decide
      · rw [if_neg c, if_neg c]; exact h2 q q1 q2, fun q q1 q2 => by
      unfold upd
      rw [if_neg (by omega), if_neg (by omega)]; exact h3 q q1 q2⟩
  obtain ⟨f1, f2, f3⟩ := hfu.full (w := 5) (by decide) (by decide)
  exact ⟨hl.ok, hl.e, hj.ok, hj.e, hj.g, f1, f2, f3⟩
theorem Fu.stays {S : MS} {n sh : Nat} (h : Fu S n sh) {t : Nat} (ht : t < 4 * n) (hs : t / 4 = sh) : LdOk S t ∧ ldE S t = 6 ∧ Fu (ldY S t) n sh := by
  obtain ⟨ow, h1, h2, h3⟩ := h.ex
  have n4 := h1.n4
  have := tb_none h1 (t := t) (by omega) (h3 t (by omega) hs)
  exact ⟨this.ok, this.e, ⟨ow, this.tb, h2, h3⟩⟩
abbrev lqT (f : Nat → Nat → AV) (nn : Int) (i : Nat) : Int := (IntKind.i64.wrap (avInt (f (0 + i) 0))).tmod (IntKind.i64.wrap (nn * 4))
noncomputable def lqS (S : MS) (t : Int) (b : Bool) : MS := match b with
  | true => jdY (jdY (ldY S t) 5) 5
  | false => ldY S t
noncomputable def lqN (f : Nat → Nat → AV) (nn : Int) (sn : Nat → Bool) (S : MS) : Nat → MS
  | 0 => S
  | i + 1 => lqS (lqN f nn sn S i) (lqT f nn i) (sn (lqT f nn i).toNat)
theorem lqT_is {f : Nat → Nat → AV} {n i : Nat} (n1 : 1 ≤ n) (n4 : n ≤ 4) (hr : 0 ≤ avInt (f i 0) ∧ avInt (f i 0) < 256) : ∃ t : Nat, lqT f (n : Int) i = t ∧ t < 4 * n := by
  have e : lqT f (n : Int) i = avInt (f i 0) % (n * 4) := by
    unfold lqT
    rw [Nat.zero_add, i64w (x := avInt (f i 0)) (by omega) (by omega), i64w (x := (n : Int) * 4) (by omega) (by omega), Int.tmod_eq_emod_of_nonneg hr.1]
  have a := Int.emod_nonneg (avInt (f i 0)) (b := (n : Int) * 4) (by omega)
  have b := Int.emod_lt_of_pos (avInt (f i 0)) (b := (n : Int) * 4) (by omega)
  exact ⟨(lqT f n i).toNat, by omega, by omega⟩
theorem lq_all {f : Nat → Nat → AV} {n sh m : Nat} {sn : Nat → Bool} {S : MS} (h : Fu S n sh) (n1 : 1 ≤ n) (n4 : n ≤ 4) (hsn : ∀ q, q < 4 * n → sn q = decide (q / 4 ≠ sh)) (hr : ∀ k, k < m → 0 ≤ avInt (f k 0) ∧ avInt (f k 0) < 256) : ∀ i, i ≤ m → Fu (lqN f n sn S i) n sh
  | 0, _ => h
  | i + 1, hi => by
    have ih := lq_all h n1 n4 hsn hr i (by omega)
    obtain ⟨t, e, ht⟩ := lqT_is n1 n4 (hr i (by omega))
    show Fu (lqS _ _ _) n sh
    rw [e, Int.toNat_natCast, hsn t ht]
    by_cases c : t / 4 = sh
    · have := ih.stays ht c
      simp only [c, ne_eq, not_true_eq_false, decide_false, lqS]; exact this.2.2
    · have := ih.leaves ht c
      simp only [c, ne_eq, not_false_eq_true, decide_true, lqS]; exact this.fu
theorem TB.begin_ {n : Nat} (n1 : 1 ≤ n) (n4 : n ≤ 4) : TB (mStore ms0 5 0 0 n) n n (fun _ => 0) := by
  have g : ∀ k a q, mget (mStore ms0 5 0 0 n).M (key k a q) = if k = 5 ∧ a = 0 ∧ q = 0 then (n : Int) else 0 := fun k a q => by
    show mget (memPut ms0.M 5 0 0 n) _ = _
    rw [tput tmay5]; rfl
  refine ⟨U64.nil.store _ _ _ _ (by omega), ?_, n1, n4, fun b hb _ => ?_, fun h => by omega, fun t ht => ?_, fun t ht => ?_⟩
  · rw [g, if_pos ⟨rfl, rfl, rfl⟩]
  · rw [g, if_neg (by omega)]; rfl
  · rw [g, if_neg (by omega)]
  · rw [g, if_neg (by omega)]
theorem TB.shut {n sh : Nat} (n1 : 1 ≤ n) (n4 : n ≤ 4) (hs : sh < n) : TB (mStore (mStore ms0 5 0 0 n) 7 sh 0 (bk 0 true)) n sh (fun _ => 0) := by
  have h := TB.begin_ n1 n4
  have g : ∀ k a q, mget (mStore (mStore ms0 5 0 0 n) 7 sh 0 (bk 0 true)).M (key k a q) = if k = 7 ∧ a = sh ∧ q = 0 then 4294967296 else mget (mStore ms0 5 0 0 n).M (key k a q) := fun k a q => by
    show mget (memPut _ 7 sh 0 (bk 0 true)) _ = _
    rw [tput (tmay7 (by omega) (by omega))]; rfl
  refine ⟨h.u.store _ _ _ _ (by decide), ?_, n1, n4, fun b hb hbs => ?_, fun h => ?_, fun t ht => ?_, fun t ht => ?_⟩
  · rw [g, if_neg (by omega)]; exact h.bn
  · rw [g, if_neg (by omega)]; exact h.bs b hb (by omega)
  · rw [g, if_pos ⟨rfl, rfl, rfl⟩]
  · rw [g, if_neg (by omega)]; exact h.ow t ht
  · rw [g, if_neg (by omega)]; exact h.inn t ht
noncomputable def ETf : Env := envG Tryd.prog ([(73, locSP jnSpec), (76, locSP lvSpec)] ++ memSP)
theorem ETf_ok : EnvOk ETf := envG_ok mgood ⟨locSP_ok jnSpec_ok, locSP_ok lvSpec_ok, memSP_ok⟩
end Go.Proofs.YtmndhjodbnojdaaDoor
