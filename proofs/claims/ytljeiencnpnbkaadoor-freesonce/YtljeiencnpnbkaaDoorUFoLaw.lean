/-
  FreesOnce: plain law.
-/
import Derived.Test.YtljeiencnpnbkaaDoorUSkLaw
import Derived.Test.YtljeiencnpnbkaaDoorUFt
set_option linter.unusedSimpArgs false
set_option linter.unusedVariables false
namespace Go.Proofs.YtljeiencnpnbkaaDoor
open Go.Ev
/-! ### FreesOnce: threads that pop, and push -/
/-- A thread: t: 0 idle, 1 a Pop, 2 a Push (of u.sl). -/
structure PT where
  t : Nat
  H : List Int
  p : PO
  u : UO
def own (a : PT) : List Int := if a.t = 2 then a.u.sl :: a.H else a.H
def owns (T : Nat → PT) : Nat → List Int
  | 0 => []
  | n + 1 => owns T n ++ own (T n)
def updP (T : Nat → PT) (k : Nat) (a : PT) : Nat → PT := fun q => if q = k then a else T q
theorem owns_same {T T' : Nat → PT} : ∀ n, (∀ i, i < n → T i = T' i) → owns T n = owns T' n
  | 0, _ => rfl
  | n + 1, h => by simp only [owns]; rw [owns_same n (fun i hi => h i (by omega)), h n (by omega)]
theorem owns_upd (T : Nat → PT) {k : Nat} (a : PT) (x : Int) : ∀ n, k < n → (owns (updP T k a) n).count x + (own (T k)).count x = (owns T n).count x + (own a).count x
  | 0, h => by omega
  | n + 1, h => by
    simp only [owns, List.count_append]
    by_cases c : k = n
    · subst c
      rw [owns_same (T := updP T k a) (T' := T) k (fun i hi => if_neg (by omega)), show updP T k a k = a from if_pos rfl]; omega
    · have := owns_upd T a x n (show k < n by omega)
      rw [show updP T k a n = T n from if_neg (fun e => c e.symm)]; omega
theorem owns_ge (T : Nat → PT) {k : Nat} (x : Int) : ∀ n, k < n → (own (T k)).count x ≤ (owns T n).count x
  | 0, h => by omega
  | n + 1, h => by
    simp only [owns, List.count_append]
    by_cases c : k = n
    · subst c; omega
    · have := owns_ge T x n (show k < n by omega); omega
theorem owns_ge2 (T : Nat → PT) {i k : Nat} (x : Int) (hne : i ≠ k) : ∀ n, k < n → i < n → (own (T i)).count x + (own (T k)).count x ≤ (owns T n).count x
  | 0, h, _ => by omega
  | n + 1, h, h2 => by
    simp only [owns, List.count_append]
    by_cases c : k = n
    · subst c
      have := owns_ge T (k := i) x k (by omega); omega
    · by_cases d : i = n
      · subst d
        have := owns_ge T (k := k) x i (by omega); omega
      · have := owns_ge2 T x hne n (show k < n by omega) (show i < n by omega); omega
/-- An old head, read when the tag was t; if that is now's, so is what was read. -/
def PVh (l : List Int) (τ : Int) (h : Int) : Prop := ∃ s t, h = hHead s t ∧ 0 ≤ s ∧ s < 256 ∧ 0 ≤ t ∧ t ≤ τ ∧ (t = τ → top l = s)
def PVn (l : List Int) (τ : Int) (h nx : Int) : Prop := ∀ s t, h = hHead s t → 0 ≤ s → s < 256 → t = τ → ∃ r, l = s :: r ∧ nx = top r
def TF (S : MS) (l : List Int) (τ : Int) (a : PT) : Prop :=
  a.t = 0 ∨
  (a.t = 1 ∧ R64 a.p.h ∧ a.p.ok = false ∧ (a.p.ln = 1 ∨ (a.p.ln = 2 ∧ PVh l τ a.p.h) ∨ (a.p.ln = 3 ∧ PVh l τ a.p.h ∧ PVn l τ a.p.h a.p.nx))) ∨
  (a.t = 2 ∧ R64 a.u.h ∧ (a.u.ln = 1 ∨ a.u.ln = 2 ∨ (a.u.ln = 3 ∧ mget S.M (key 9 a.u.sl 2) = hHead (hSlot a.u.h) 0)))
structure FI (n : Nat) (S : MS) (T : Nat → PT) (l : List Int) (τ : Int) : Prop where
  sk : SK S l τ
  t0 : 0 ≤ τ
  c : ∀ x, l.count x + (owns T 6).count x = if 0 ≤ x ∧ x < n then 1 else 0
  nn : n ≤ 60
  a : ∀ k, k < 6 → TF S l τ (T k)
theorem tf_new {S S' : MS} {l l' : List Int} {τ : Int} {a : PT} (h : TF S l τ a) (hs : ∀ x ∈ own a, mget S'.M (key 9 x 2) = mget S.M (key 9 x 2)) (hτ : τ + 1 < 281474976710656) : TF S' l' (τ + 1) a := by
  rcases h with q | ⟨q, q1, q2, q3⟩ | ⟨q, q1, q2⟩
  · exact .inl q
  · refine .inr (.inl ⟨q, q1, q2, ?_⟩)
    rcases q3 with z | ⟨z, s, t, z1, z2, z3, z4, z5, z6⟩ | ⟨z, ⟨s, t, z1, z2, z3, z4, z5, z6⟩, z7⟩
    · exact .inl z
    · exact .inr (.inl ⟨z, s, t, z1, z2, z3, z4, by omega, fun e => by omega⟩)
    · refine .inr (.inr ⟨z, ⟨s, t, z1, z2, z3, z4, by omega, fun e => by omega⟩, fun s' t' e1 e2 e3 e4 => ?_⟩)
      exfalso
      have := congrArg hTag (z1.symm.trans e1)
      rw [hTag_head z4 (by omega), e4, hTag_head (by omega) hτ] at this
      omega
  · refine .inr (.inr ⟨q, q1, ?_⟩)
    rcases q2 with z | z | ⟨z, z1⟩
    · exact .inl z
    · exact .inr (.inl z)
    · exact .inr (.inr ⟨z, by rw [hs _ (by unfold own; rw [if_pos q]; simp)]; exact z1⟩)
theorem tf_same {S S' : MS} {l : List Int} {τ : Int} {a : PT} (h : TF S l τ a) (hs : ∀ x ∈ own a, mget S'.M (key 9 x 2) = mget S.M (key 9 x 2)) : TF S' l τ a := by
  rcases h with q | q | ⟨q, q1, q2⟩
  · exact .inl q
  · exact .inr (.inl q)
  · refine .inr (.inr ⟨q, q1, ?_⟩)
    rcases q2 with z | z | ⟨z, z1⟩
    · exact .inl z
    · exact .inr (.inl z)
    · exact .inr (.inr ⟨z, by rw [hs _ (by unfold own; rw [if_pos q]; simp)]; exact z1⟩)
section
variable {n : Nat} {S S' : MS} {T : Nat → PT} {l : List Int} {τ : Int} {k : Nat} {a' : PT} (h : FI n S T l τ) (hk : k < 6)
include h hk
theorem FI.one {x : Int} (hx : x ∈ own (T k)) : 0 ≤ x ∧ x < n ∧ x ∉ l ∧ (∀ i, i < 6 → i ≠ k → x ∉ own (T i)) ∧ (own (T k)).count x = 1 := by
  have hc := h.c x
  have hp := List.count_pos_iff.2 hx
  have hg := owns_ge T (k := k) x 6 hk
  have hin : 0 ≤ x ∧ x < n := by
    by_cases c : 0 ≤ x ∧ x < n
    · exact c
    · rw [if_neg c] at hc; omega
  rw [if_pos hin] at hc
  refine ⟨hin.1, hin.2, fun q => ?_, fun i hi hne q => ?_, by omega⟩
  · have := List.count_pos_iff.2 q; omega
  · have := owns_ge2 T x hne 6 hk hi
    have := List.count_pos_iff.2 q; omega
theorem FI.keep (hM : S'.M = S.M) (hp : ∀ x, (own a').count x = (own (T k)).count x) (ha : TF S' l τ a') : FI n S' (updP T k a') l τ := by
  obtain ⟨sk, t0, c, nn, a⟩ := h
  refine ⟨⟨fun q => by rw [hM]; exact sk.u q, by rw [hM]; exact sk.hd, by rw [hM]; exact sk.lk, sk.r, sk.nd⟩, t0, fun x => ?_, nn, fun i hi => ?_⟩
  · have := owns_upd T a' x 6 hk
    have := hp x
    have := c x
    omega
  · show TF S' l τ (if i = k then a' else T i)
    by_cases d : i = k
    · rw [if_pos d]; exact ha
    · rw [if_neg d]; exact tf_same (a i hi) (fun x _ => by rw [hM])
theorem FI.link {y v : Int} (hsk : SK S' l τ) (hl : ∀ x, mget S'.M (key 9 x 2) = if x = y then v else mget S.M (key 9 x 2)) (hy : y ∈ own (T k)) (hp : ∀ x, (own a').count x = (own (T k)).count x) (ha : TF S' l τ a') : FI n S' (updP T k a') l τ := by
  obtain ⟨_, _, o1, o2, _⟩ := h.one hk hy
  obtain ⟨sk, t0, c, nn, a⟩ := h
  refine ⟨hsk, t0, fun x => ?_, nn, fun i hi => ?_⟩
  · have := owns_upd T a' x 6 hk
    have := hp x
    have := c x
    omega
  · show TF S' l τ (if i = k then a' else T i)
    by_cases d : i = k
    · rw [if_pos d]; exact ha
    · rw [if_neg d]; exact tf_same (a i hi) (fun x hx => by rw [hl, if_neg (fun e => o2 i hi d (by rw [← e]; exact hx))])
theorem FI.head {l' : List Int} (hsk : SK S' l' (τ + 1)) (hτ : τ + 1 < 281474976710656) (hl : ∀ x, mget S'.M (key 9 x 2) = mget S.M (key 9 x 2)) (hp : ∀ x, l'.count x + (own a').count x = l.count x + (own (T k)).count x) (ha : a'.t = 0) : FI n S' (updP T k a') l' (τ + 1) := by
  obtain ⟨sk, t0, c, nn, a⟩ := h
  refine ⟨hsk, by omega, fun x => ?_, nn, fun i hi => ?_⟩
  · have := owns_upd T a' x 6 hk
    have := hp x
    have := c x
    omega
  · show TF S' l' (τ + 1) (if i = k then a' else T i)
    by_cases d : i = k
    · rw [if_pos d]; exact .inl ha
    · rw [if_neg d]; exact tf_new (a i hi) (fun x _ => hl x) hτ
end
def popF (a : PT) (o : PO) : PT := if o.ln = 0 then ⟨0, if o.ok = true then a.H ++ [o.sl] else a.H, o, a.u⟩ else ⟨1, a.H, o, a.u⟩
def pshF (a : PT) (o : UO) : PT := if o.ln = 0 then ⟨0, a.H, a.p, o⟩ else ⟨2, a.H, a.p, o⟩
theorem own1 {H : List Int} {p : PO} {u : UO} : own ⟨1, H, p, u⟩ = H := rfl
theorem own0 {H : List Int} {p : PO} {u : UO} : own ⟨0, H, p, u⟩ = H := rfl
theorem own2 {H : List Int} {p : PO} {u : UO} : own ⟨2, H, p, u⟩ = u.sl :: H := rfl
theorem own_n2 {a : PT} (h : a.t ≠ 2) : own a = a.H := if_neg h
theorem own_2 {a : PT} (h : a.t = 2) : own a = a.u.sl :: a.H := if_pos h
theorem casD0_iff {M : List Int → Option Int} {w : Int} : casD M 0 0 0 w = true ↔ mget M (key 0 0 0) = w := by
  refine ⟨fun hc => ?_, casD_t⟩
  unfold casD at hc
  split at hc
  · rename_i c; simpa using c
  · cases hc
theorem popF_go {a : PT} {o : PO} (h : o.ln ≠ 0) : popF a o = ⟨1, a.H, o, a.u⟩ := if_neg h
theorem pshF_go {a : PT} {o : UO} (h : o.ln ≠ 0) : pshF a o = ⟨2, a.H, a.p, o⟩ := if_neg h
/-- How many steps one needs who is alone. -/
def pMu (S : MS) (o : PO) : Nat :=
  if o.ln = 1 then 3 else if o.ln = 2 then (if casD S.M 0 0 0 o.h = true then 2 else 5) else if o.ln = 3 then (if casD S.M 0 0 0 o.h = true then 1 else 4) else 0
def uMu (S : MS) (o : UO) : Nat :=
  if o.ln = 1 then 3 else if o.ln = 2 then (if casD S.M 0 0 0 o.h = true then 2 else 5) else if o.ln = 3 then (if casD S.M 0 0 0 o.h = true then 1 else 4) else 0
theorem pMu_le (S : MS) (o : PO) : pMu S o ≤ 5 := by
  unfold pMu
  repeat' split
  all_goals omega
theorem uMu_le (S : MS) (o : UO) : uMu S o ≤ 5 := by
  unfold uMu
  repeat' split
  all_goals omega
section
variable {n : Nat} {S : MS} {T : Nat → PT} {l : List Int} {τ : Int} {k : Nat} (h : FI n S T l τ) (hk : k < 6)
include h hk
theorem pop_step (ht : (T k).t = 1) (hτ : τ + 1 < 281474976710656) : ∃ l' τ', FI n (popS S (T k).p) (updP T k (popF (T k) (popO S (T k).p))) l' τ' ∧ τ' ≤ τ + 1 ∧ pMu (popS S (T k).p) (popO S (T k).p) < pMu S (T k).p := by
  have ho : own (T k) = (T k).H := own_n2 (by rw [ht]; decide)
  obtain ⟨hr, hok, hp⟩ : R64 (T k).p.h ∧ (T k).p.ok = false ∧ ((T k).p.ln = 1 ∨ ((T k).p.ln = 2 ∧ PVh l τ (T k).p.h) ∨ ((T k).p.ln = 3 ∧ PVh l τ (T k).p.h ∧ PVn l τ (T k).p.h (T k).p.nx)) := by
    rcases h.a k hk with q | ⟨_, q⟩ | ⟨q, _⟩
    · rw [ht] at q; exact absurd q (by decide)
    · exact q
    · rw [ht] at q; exact absurd q (by decide)
  obtain ⟨ln, hd, nx, sl, ok, hpo⟩ : ∃ ln hd nx sl ok, (T k).p = ⟨ln, hd, nx, sl, ok⟩ := ⟨_, _, _, _, _, rfl⟩
  rw [hpo] at hr hok hp ⊢
  simp only at hok hr
  subst hok
  rcases hp with z | ⟨z, z1⟩ | ⟨z, z1, z2⟩ <;> (simp only at z; subst z)
  · have eS : popS S ⟨1, hd, nx, sl, false⟩ = mLoad S 0 0 0 := rfl
    rw [eS]
    by_cases c : hSlot (mget S.M (key 0 0 0)) < 0
    · rw [popO_1a c]
      exact ⟨l, τ, h.keep hk rfl (fun x => by rw [ho]; rfl) (.inl rfl), by omega, by show (0 : Nat) < 3; decide⟩
    · rw [popO_1b c, popF_go (show (2 : Int) ≠ 0 by decide)]
      refine ⟨l, τ, h.keep hk rfl (fun x => by rw [ho]; rfl) (.inr (.inl ⟨rfl, h.sk.u _, rfl, .inr (.inl ⟨rfl, top l, τ, h.sk.hd, ?_⟩)⟩)), by omega, ?_⟩
      · rw [h.sk.hd, hSlot_top h.sk.r] at c
        rcases top_r h.sk.r with q | q
        · exact ⟨q.1, q.2, h.t0, Int.le_refl _, fun _ => rfl⟩
        · rw [q] at c; exact absurd (by decide) c
      · show (if casD S.M 0 0 0 (mget S.M (key 0 0 0)) = true then 2 else 5) < 3
        rw [if_pos (casD0_iff.2 rfl)]; decide
  · simp only at z1
    obtain ⟨s, t, e1, e2, e3, e4, e5, e6⟩ := z1
    have eS : popS S ⟨2, hd, nx, sl, false⟩ = mLoad S 9 (hSlot hd) 2 := rfl
    have eO : popO S ⟨2, hd, nx, sl, false⟩ = ⟨3, hd, hSlot (mget S.M (key 9 (hSlot hd) 2)), sl, false⟩ := rfl
    have hs : hSlot hd = s := by rw [e1]; exact hSlot_head e2 e3
    rw [eS, eO, popF_go (show (3 : Int) ≠ 0 by decide)]
    refine ⟨l, τ, h.keep hk rfl (fun x => by rw [ho]; rfl) (.inr (.inl ⟨rfl, hr, rfl, .inr (.inr ⟨rfl, ⟨s, t, e1, e2, e3, e4, e5, e6⟩, fun s' t' f1 f2 f3 f4 => ?_⟩)⟩)), by omega, ?_⟩
    · have hs' : s' = s := by rw [← hs]; show s' = hSlot hd; rw [show hd = hHead s' t' from f1, hSlot_head f2 f3]
      subst hs'
      have ht' : t = τ := by
        have := congrArg hTag (e1.symm.trans f1)
        rw [hTag_head e4 (by omega), f4, hTag_head h.t0 (by omega)] at this
        exact this
      have et := e6 ht'
      cases el : l with
      | nil => rw [el] at et; exact absurd et.symm (by show ¬ s' = -1; omega)
      | cons y r =>
        rw [el] at et
        have et : y = s' := et
        subst et
        refine ⟨r, rfl, ?_⟩
        have lk := h.sk.lk
        rw [el] at lk
        show hSlot (mget S.M (key 9 (hSlot hd) 2)) = top r
        rw [hs, lk.1]
        exact hSlot_top (fun x hx => h.sk.r x (by rw [el]; simp [hx])) 0
    · show (if casD S.M 0 0 0 hd = true then 1 else 4) < (if casD S.M 0 0 0 hd = true then 2 else 5)
      split <;> decide
  · simp only at z1 z2
    by_cases c : casD S.M 0 0 0 hd = true
    · obtain ⟨s, t, e1, e2, e3, e4, e5, e6⟩ := z1
      have hw : hHead (top l) τ = hd := by rw [← h.sk.hd]; exact casD0_iff.1 c
      have ht' : t = τ := by
        have := congrArg hTag (hw.trans e1)
        rw [hTag_head h.t0 (by omega), hTag_head e4 (by omega)] at this
        exact this.symm
      obtain ⟨r, el, en⟩ := z2 s t e1 e2 e3 ht'
      subst el
      have hs : hSlot hd = s := by rw [e1]; exact hSlot_head e2 e3
      have ew : IntKind.u64.wrap (hTag hd + 1) = τ + 1 := by rw [← hw, hTag_head h.t0 (by omega)]; exact u64_wrap (by have := h.t0; omega) (by omega)
      have eS : popS S ⟨3, hd, nx, sl, false⟩ = mCas S 0 0 0 hd (hHead (top r) (τ + 1)) := by
        show mCas S 0 0 0 hd (hHead nx (IntKind.u64.wrap (hTag hd + 1))) = _
        rw [ew, en]
      have hcas := (h.sk.cas (w := hd) (s := top r) (l' := r) (t' := τ + 1) hw.symm rfl h.sk.lk.2 (fun x hx => h.sk.r x (by simp [hx])) (List.nodup_cons.1 h.sk.nd).2).1
      have eM : (mCas S 0 0 0 hd (hHead (top r) (τ + 1))).M = memPut S.M 0 0 0 (hHead (top r) (τ + 1)) := by
        show casM S.M 0 0 0 hd _ = _
        rw [casM_put, if_pos c]
      rw [eS, popO_3a c, hs]
      refine ⟨r, τ + 1, h.head hk hcas hτ (fun x => by rw [eM, mget_put, if_neg (fun e => by have := e.2.1; omega)]) (fun x => ?_) rfl, by omega, ?_⟩
      · have : own (popF (T k) ⟨0, hd, nx, s, true⟩) = (T k).H ++ [s] := rfl
        rw [this, ho, List.count_append, List.count_cons, List.count_cons]; simp; omega
      · show (0 : Nat) < (if casD S.M 0 0 0 hd = true then 1 else 4)
        rw [if_pos c]; decide
    · have eM : (popS S ⟨3, hd, nx, sl, false⟩).M = S.M := by
        show casM S.M 0 0 0 hd _ = _
        rw [casM_put, if_neg c]
      rw [popO_3b c, popF_go (show (1 : Int) ≠ 0 by decide)]
      refine ⟨l, τ, h.keep hk eM (fun x => by rw [ho]; rfl) (.inr (.inl ⟨rfl, hr, rfl, .inl rfl⟩)), by omega, ?_⟩
      show (3 : Nat) < (if casD S.M 0 0 0 hd = true then 1 else 4)
      rw [if_neg c]; decide
theorem push_step (ht : (T k).t = 2) (hτ : τ + 1 < 281474976710656) : ∃ l' τ', FI n (pshS S (T k).u) (updP T k (pshF (T k) (pshO S (T k).u))) l' τ' ∧ τ' ≤ τ + 1 ∧ uMu (pshS S (T k).u) (pshO S (T k).u) < uMu S (T k).u := by
  have ho : own (T k) = (T k).u.sl :: (T k).H := own_2 ht
  obtain ⟨hr, hp⟩ : R64 (T k).u.h ∧ ((T k).u.ln = 1 ∨ (T k).u.ln = 2 ∨ ((T k).u.ln = 3 ∧ mget S.M (key 9 (T k).u.sl 2) = hHead (hSlot (T k).u.h) 0)) := by
    rcases h.a k hk with q | ⟨q, _⟩ | ⟨_, q⟩
    · rw [ht] at q; exact absurd q (by decide)
    · rw [ht] at q; exact absurd q (by decide)
    · exact q
  obtain ⟨o1, o2, o3, o4, o5⟩ := h.one hk (x := (T k).u.sl) (by rw [ho]; simp)
  have nn := h.nn
  obtain ⟨ln, hd, sl, hpo⟩ : ∃ ln hd sl, (T k).u = ⟨ln, hd, sl⟩ := ⟨_, _, _, rfl⟩
  rw [hpo] at hr hp ho o1 o2 o3 ⊢
  simp only at hr o1 o2 o3
  rcases hp with z | z | ⟨z, z1⟩ <;> (simp only at z; subst z)
  · have eS : pshS S ⟨1, hd, sl⟩ = mLoad S 0 0 0 := rfl
    have eO : pshO S ⟨1, hd, sl⟩ = ⟨2, mget S.M (key 0 0 0), sl⟩ := rfl
    rw [eS, eO, pshF_go (show (2 : Int) ≠ 0 by decide)]
    refine ⟨l, τ, h.keep hk rfl (fun x => by rw [ho]; rfl) (.inr (.inr ⟨rfl, h.sk.u _, .inr (.inl rfl)⟩)), by omega, ?_⟩
    show (if casD S.M 0 0 0 (mget S.M (key 0 0 0)) = true then 2 else 5) < 3
    rw [if_pos (casD0_iff.2 rfl)]; decide
  · have eS : pshS S ⟨2, hd, sl⟩ = mStore S 9 sl 2 (hHead (hSlot hd) 0) := rfl
    have eO : pshO S ⟨2, hd, sl⟩ = ⟨3, hd, sl⟩ := rfl
    have hl : ∀ x, mget (mStore S 9 sl 2 (hHead (hSlot hd) 0)).M (key 9 x 2) = if x = sl then hHead (hSlot hd) 0 else mget S.M (key 9 x 2) := fun x => by
      show mget (memPut S.M 9 sl 2 _) _ = _
      rw [mget_put]
      by_cases c : x = sl
      · rw [if_pos ⟨may9 o1 (by omega), rfl, c, rfl⟩, if_pos c]
      · rw [if_neg (fun e => c e.2.2.1), if_neg c]
    have h0 : mget (mStore S 9 sl 2 (hHead (hSlot hd) 0)).M (key 0 0 0) = mget S.M (key 0 0 0) := by
      show mget (memPut S.M 9 sl 2 _) _ = _
      rw [mget_put, if_neg (fun e => by have := e.2.1; omega)]
    rw [eS, eO, pshF_go (show (3 : Int) ≠ 0 by decide)]
    refine ⟨l, τ, h.link hk (h.sk.link o3 (hHead_r _ _)) hl (by rw [ho]; simp) (fun x => by rw [ho]; rfl) (.inr (.inr ⟨rfl, hr, .inr (.inr ⟨rfl, ?_⟩)⟩)), by omega, ?_⟩
    · show mget (mStore S 9 sl 2 (hHead (hSlot hd) 0)).M (key 9 sl 2) = hHead (hSlot hd) 0
      rw [hl, if_pos rfl]
    · show (if casD (mStore S 9 sl 2 (hHead (hSlot hd) 0)).M 0 0 0 hd = true then 1 else 4) < (if casD S.M 0 0 0 hd = true then 2 else 5)
      by_cases c : casD S.M 0 0 0 hd = true
      · rw [if_pos c, if_pos (casD0_iff.2 (by rw [h0]; exact casD0_iff.1 c))]; decide
      · rw [if_neg c, if_neg (fun q => c (casD0_iff.2 (by rw [← h0]; exact casD0_iff.1 q)))]; decide
  · simp only at z1
    by_cases c : casD S.M 0 0 0 hd = true
    · have hw : hHead (top l) τ = hd := by rw [← h.sk.hd]; exact casD0_iff.1 c
      have ew : IntKind.u64.wrap (hTag hd + 1) = τ + 1 := by rw [← hw, hTag_head h.t0 (by omega)]; exact u64_wrap (by have := h.t0; omega) (by omega)
      have eS : pshS S ⟨3, hd, sl⟩ = mCas S 0 0 0 hd (hHead sl (τ + 1)) := by
        show mCas S 0 0 0 hd (hHead sl (IntKind.u64.wrap (hTag hd + 1))) = _
        rw [ew]
      have hs : hSlot hd = top l := by rw [← hw]; exact hSlot_top h.sk.r τ
      have hcas := (h.sk.cas (w := hd) (s := sl) (l' := sl :: l) (t' := τ + 1) hw.symm rfl ⟨by rw [z1, hs], h.sk.lk⟩ (fun x hx => by rcases List.mem_cons.1 hx with e | e; rw [e]; omega; exact h.sk.r x e) (List.nodup_cons.2 ⟨o3, h.sk.nd⟩)).1
      have eM : (mCas S 0 0 0 hd (hHead sl (τ + 1))).M = memPut S.M 0 0 0 (hHead sl (τ + 1)) := by
        show casM S.M 0 0 0 hd _ = _
        rw [casM_put, if_pos c]
      rw [eS, pshO_3a c]
      refine ⟨sl :: l, τ + 1, h.head hk hcas hτ (fun x => by rw [eM, mget_put, if_neg (fun e => by have := e.2.1; omega)]) (fun x => ?_) rfl, by omega, ?_⟩
      · have : own (pshF (T k) ⟨0, hd, sl⟩) = (T k).H := rfl
        have ho' : own (T k) = sl :: (T k).H := ho
        rw [this, ho', List.count_cons, List.count_cons]; omega
      · show (0 : Nat) < (if casD S.M 0 0 0 hd = true then 1 else 4)
        rw [if_pos c]; decide
    · have eM : (pshS S ⟨3, hd, sl⟩).M = S.M := by
        show casM S.M 0 0 0 hd _ = _
        rw [casM_put, if_neg c]
      rw [pshO_3b c, pshF_go (show (1 : Int) ≠ 0 by decide)]
      refine ⟨l, τ, h.keep hk eM (fun x => by rw [ho]; rfl) (.inr (.inr ⟨rfl, hr, .inl rfl⟩)), by omega, ?_⟩
      show (3 : Nat) < (if casD S.M 0 0 0 hd = true then 1 else 4)
      rw [if_neg c]; decide
end
/-- What is held by the first k. -/
def helds (T : Nat → PT) : Nat → List Int
  | 0 => []
  | n + 1 => helds T n ++ (T n).H
theorem held_own (a : PT) (x : Int) : a.H.count x ≤ (own a).count x := by
  unfold own
  split
  · rw [List.count_cons]; omega
  · exact Nat.le_refl _
theorem helds_le (T : Nat → PT) (x : Int) : ∀ n, (helds T n).count x ≤ (owns T n).count x
  | 0 => Nat.le_refl _
  | n + 1 => by
    simp only [helds, owns, List.count_append]
    have := helds_le T x n
    have := held_own (T n) x
    omega
theorem owns_mono (T : Nat → PT) (x : Int) {m : Nat} : ∀ n, m ≤ n → (owns T m).count x ≤ (owns T n).count x
  | 0, h => by obtain rfl : m = 0 := by omega
               exact Nat.le_refl _
  | n + 1, h => by
    by_cases c : m = n + 1
    · subst c; exact Nat.le_refl _
    · have := owns_mono T x n (show m ≤ n by omega)
      simp only [owns, List.count_append]; omega
section
variable {n : Nat} {S : MS} {T : Nat → PT} {l : List Int} {τ : Int} (h : FI n S T l τ)
include h
theorem FI.le1 (x : Int) : (owns T 6).count x ≤ 1 ∧ (0 < (owns T 6).count x → 0 ≤ x ∧ x < n) := by
  have hc := h.c x
  by_cases c : 0 ≤ x ∧ x < n
  · rw [if_pos c] at hc; exact ⟨by omega, fun _ => c⟩
  · rw [if_neg c] at hc; exact ⟨by omega, fun q => by omega⟩
/-- What the law looks at behind each step: each thread has slots of its own. -/
theorem FI.apart {i j : Nat} (hi : i < 6) (hj : j < (T i).H.length) : 0 ≤ (T i).H[j] ∧ (T i).H[j] < n ∧ (T i).H[j] ∉ helds T i ++ (T i).H.take j := by
  obtain ⟨h1, h2⟩ := h.le1 (T i).H[j]
  have e1 : (owns T (i + 1)).count (T i).H[j] ≤ (owns T 6).count (T i).H[j] := owns_mono T _ 6 (by omega)
  rw [show owns T (i + 1) = owns T i ++ own (T i) from rfl, List.count_append] at e1
  have e2 := helds_le T (T i).H[j] i
  have e3 := held_own (T i) (T i).H[j]
  have e4 : (T i).H.count (T i).H[j] = ((T i).H.take j).count (T i).H[j] + ((T i).H.drop j).count (T i).H[j] := by
    rw [← List.count_append, List.take_append_drop]
  have e5 : 0 < ((T i).H.drop j).count (T i).H[j] := List.count_pos_iff.2 (by rw [List.drop_eq_getElem_cons hj]; exact List.mem_cons_self ..)
  have hin := h2 (by omega)
  refine ⟨hin.1, hin.2, fun q => ?_⟩
  have := List.count_pos_iff.2 q
  rw [List.count_append] at this
  omega
/-- At the end each is in the list, or held, once. -/
theorem FI.rest (h0 : ∀ k, k < 6 → (T k).t = 0) (x : Int) : (l ++ helds T 6).count x = if 0 ≤ x ∧ x < n then 1 else 0 := by
  have e : ∀ m, m ≤ 6 → owns T m = helds T m := fun m => by
    induction m with
    | zero => exact fun _ => rfl
    | succ m IH => intro hm; simp only [owns, helds]; rw [IH (by omega), own_n2 (by rw [h0 m (by omega)]; decide)]
  rw [List.count_append, ← e 6 (Nat.le_refl 6)]
  exact h.c x
theorem begin_pop {k : Nat} (hk : k < 6) (ht : (T k).t = 0) : FI n S (updP T k ⟨1, (T k).H, po0, (T k).u⟩) l τ :=
  h.keep hk rfl (fun x => by rw [own_n2 (a := T k) (by rw [ht]; decide)]; rfl) (.inr (.inl ⟨rfl, ⟨by show (0 : Int) ≤ 0; decide, by show (0 : Int) < _; decide⟩, rfl, .inl rfl⟩))
theorem begin_push {k : Nat} {s : Int} {r : List Int} (hk : k < 6) (ht : (T k).t = 0) (hH : (T k).H = s :: r) : FI n S (updP T k ⟨2, r, (T k).p, ⟨1, 0, s⟩⟩) l τ :=
  h.keep hk rfl (fun x => by rw [own_n2 (a := T k) (by rw [ht]; decide), hH]; rfl) (.inr (.inr ⟨rfl, ⟨by show (0 : Int) ≤ 0; decide, by show (0 : Int) < _; decide⟩, .inl rfl⟩))
end
/-- At first: all are in the list. -/
def downL : Nat → List Int
  | 0 => []
  | n + 1 => (n : Int) :: downL n
theorem downL_count (x : Int) : ∀ n, (downL n).count x = if 0 ≤ x ∧ x < (n : Int) then 1 else 0
  | 0 => by rw [if_neg (by omega)]; rfl
  | n + 1 => by
    show ((n : Int) :: downL n).count x = _
    rw [List.count_cons, downL_count x n]
    by_cases c : x = (n : Int)
    · subst c; rw [if_neg (by omega), if_pos (by simp), if_pos (by omega)]
    · by_cases d : 0 ≤ x ∧ x < (n : Int)
      · rw [if_pos d, if_neg (by simp; omega), if_pos (by omega)]
      · rw [if_neg d, if_neg (by simp; omega), if_neg (by omega)]
def idleP : PT := ⟨0, [], po0, ⟨0, 0, 0⟩⟩
theorem FI.start {n : Nat} {S : MS} (h : SK S (downL n) n) (hn : n ≤ 60) : FI n S (fun _ => idleP) (downL n) n :=
  ⟨h, by omega, fun x => by rw [downL_count]; simp [owns, own, idleP], hn, fun k _ => .inl rfl⟩
noncomputable def fillS : Nat → MS
  | 0 => ms0
  | n + 1 => psS3 (fillS n) (n : Int)
theorem downL_r : ∀ n, ∀ x ∈ downL n, 0 ≤ x ∧ x < (n : Int)
  | 0, x, h => by simp [downL] at h
  | n + 1, x, h => by
    rcases List.mem_cons.1 h with e | e
    · omega
    · have := downL_r n x e; omega
theorem fill_ok : ∀ n, n ≤ 60 → SK (fillS n) (downL n) n
  | 0, _ => SK.nil
  | n + 1, hn => (fill_ok n (by omega)).push (fun e => by have := downL_r n _ e; omega) (by omega) (by omega) (by omega) (by omega) |>.1
theorem fill_line {n : Nat} (hn : n < 60) : (psO3 (fillS n) (n : Int)).ln = 0 := ((fill_ok n (by omega)).push (fun e => by have := downL_r n _ e; omega) (by omega) (by omega) (by omega) (by omega)).2
noncomputable def EFo : Env := envG Tryd.prog ([(102, locSP pshSpec), (104, locSP popSpec), (107, tabSP 0 tab ashS)] ++ memSP)
theorem EFo_ok : EnvOk EFo := envG_ok mgood ⟨locSP_ok pshSpec_ok, locSP_ok popSpec_ok, tabSP_ok rfl ashS_ok, memSP_ok⟩
theorem psS_u {S : MS} (h : U64 S) (s : Int) : U64 (psS1 S s) ∧ U64 (psS2 S s) ∧ U64 (psS3 S s) := ⟨pshY_u h, pshY_u (pshY_u h), pshY_u (pshY_u (pshY_u h))⟩
theorem psO_ok {S : MS} (h : U64 S) (s : Int) : UoOk (psO1 S s) ∧ UoOk (psO2 S s) := ⟨pshX_ok h (uo0_ok s), pshX_ok (pshY_u h) (pshX_ok h (uo0_ok s))⟩
theorem ppS_u {S : MS} (h : U64 S) : U64 (ppS1 S) ∧ U64 (ppS2 S) ∧ U64 (ppS3 S) := ⟨popY_u h, popY_u (popY_u h), popY_u (popY_u (popY_u h))⟩
theorem ppO_ok {S : MS} (h : U64 S) : PoOk (ppO1 S) ∧ PoOk (ppO2 S) := ⟨popX_ok h po0_ok, popX_ok (popY_u h) (popX_ok h po0_ok)⟩
theorem fillS_u (n : Nat) (h : n ≤ 60) : U64 (fillS n) := (fill_ok n h).u
theorem fill_lines {i n : Nat} (h : i < n) (hn : n ≤ 60) : (psO3 (fillS i) (Int.ofNat i)).ln = 0 ∧ ¬ (psO1 (fillS i) (Int.ofNat i)).ln = 0 ∧ ¬ (psO2 (fillS i) (Int.ofNat i)).ln = 0 := by
  have a := psO_lines (fill_ok i (by omega)) (s := (i : Int)) (fun e => by have := downL_r i _ e; omega) (by omega) (by omega) (by omega) (by omega)
  exact ⟨fill_line (by omega), a.1, a.2⟩
end Go.Proofs.YtljeiencnpnbkaaDoor
