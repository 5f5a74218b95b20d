/-
  OrphansRound: the plain law.
-/
import Derived.Test.YtmndhjodbnojdaaDoorJRb
import Derived.Test.YtmndhjodbnojdaaDoorJSame
set_option linter.unusedSimpArgs false
set_option linter.unusedVariables false
namespace Go.Proofs.YtmndhjodbnojdaaDoor
open Go.Ev
theorem hHead_r' (s t : Int) : 0 ≤ hHead s t ∧ hHead s t < 18446744073709551616 := by
  unfold hHead
  have a := Int.emod_nonneg t (b := 281474976710656) (by decide)
  have b := Int.emod_lt_of_pos t (b := 281474976710656) (by decide)
  split <;> omega
noncomputable def ETk : Env := envG Tryd.prog [(37, locSP teSpec)]
theorem ETk_ok : EnvOk ETk := envG_ok mgood ⟨locSP_ok teSpec_ok, trivial⟩
structure TI where
  S : MS
  o : TO
  n : Nat
  E : Nat → Enty
def y0 : Enty := ⟨0, 0, false, 0, 0, 0⟩
/-- A Take by one alone: i steps. -/
noncomputable def tkIt (S : MS) : Nat → TI
  | 0 => ⟨S, ⟨1, 0, 0, y0⟩, 0, fun _ => y0⟩
  | i + 1 => ⟨teY (tkIt S i).S (tkIt S i).o, teX (tkIt S i).n (tkIt S i).S (tkIt S i).o, teNX (tkIt S i).n (tkIt S i).o, teEX (tkIt S i).n (tkIt S i).E (tkIt S i).S (tkIt S i).o⟩
structure TeOk (o : TO) : Prop where
  l : TLn o.ln
  h : R64 o.h
theorem teS_u {S : MS} {o : TO} (h : U64 S) : U64 (teS S o) := by
  unfold teS
  repeat' split
  all_goals first | exact h.load _ _ _ | exact h.cas _ _ _ _ _ (hHead_r' _ _) | exact h
theorem teO_ok {n : Nat} {S : MS} {o : TO} (h : U64 S) (ho : TeOk o) : TeOk (teO n S o) := by
  obtain ⟨h1, h2⟩ := ho
  unfold teO TLn at *
  repeat' split
  all_goals first | exact ⟨.inl rfl, h _⟩ | exact ⟨.inr (.inr (.inl rfl)), h _⟩ | exact ⟨.inr (.inr (.inr (.inl rfl))), h2⟩ | exact ⟨.inr (.inl rfl), h2⟩ | exact ⟨.inr (.inr (.inr (.inr (.inl rfl)))), h2⟩ | exact ⟨.inr (.inr (.inr (.inr (.inr (.inl rfl))))), h2⟩ | exact ⟨.inr (.inr (.inr (.inr (.inr (.inr (.inl rfl)))))), h2⟩ | exact ⟨.inr (.inr (.inr (.inr (.inr (.inr (.inr rfl)))))), h2⟩ | exact ⟨.inl rfl, h2⟩ | exact ⟨h1, h2⟩
theorem tkIt_ok {S : MS} (h : U64 S) : ∀ i, U64 (tkIt S i).S ∧ TeOk (tkIt S i).o ∧ (tkIt S i).n ≤ i
  | 0 => ⟨h, ⟨.inr (.inl rfl), z0⟩, Nat.le_refl _⟩
  | i + 1 => by
    obtain ⟨h1, h2, h3⟩ := tkIt_ok h i
    refine ⟨?_, ?_, ?_⟩
    · show U64 (teY _ _); rw [teY_eq]; exact teS_u h1
    · show TeOk (teX _ _ _); rw [teX_eq]; exact teO_ok h1 h2
    · show teNX _ _ ≤ _; rw [teNX_eq]; unfold teN; split <;> omega
theorem may4 : mayA 4 0 0 = true := by decide
theorem mayO {s f : Int} (h0 : 0 ≤ s) (h1 : s < 256) (f0 : 0 ≤ f) (f1 : f < 8) : mayA 9 s f = true := by
  unfold mayA kAt kFl
  exact decide_eq_true ⟨by decide, h0, by simpa using h1, f0, by simpa using f1⟩
theorem oput_ne {M : List Int → Option Int} {k a f v k' a' f' : Int} (h : ¬ (k' = k ∧ a' = a ∧ f' = f)) : mget (memPut M k a f v) (key k' a' f') = mget M (key k' a' f') := by
  rw [mget_put, if_neg (fun e => h e.2)]
theorem casD_o {M : List Int → Option Int} {w : Int} (h : mget M (key 4 0 0) = w) : casD M 4 0 0 w = true := by
  unfold casD; rw [h]; simp [may4]
def eAt (M : List Int → Option Int) (s : Int) : Enty := ⟨s, hdrG (mget M (key 9 s 0)), false, mget M (key 9 s 1), mget M (key 9 s 3), mget M (key 9 s 4)⟩
/-- Five steps at one slot. -/
structure Tk5 (x : TI) (y : TI) (s nx : Int) : Prop where
  n : y.n = x.n + 1
  E : y.E = addY x.n x.E (eAt x.S.M s)
  M : y.S.M = x.S.M
  u : U64 y.S
noncomputable def tkUp (x : TI) : TI := ⟨teY x.S x.o, teX x.n x.S x.o, teNX x.n x.o, teEX x.n x.E x.S x.o⟩
theorem tkIt_s (S : MS) (i : Nat) : tkIt S (i + 1) = tkUp (tkIt S i) := rfl
theorem tk_five {x : TI} {h s : Int} {e : Enty} (hx : x.o = ⟨3, h, s, e⟩) (hn : x.n < 256) (hu : U64 x.S) :
    (tkUp x).o.ln = 4 ∧ (tkUp (tkUp x)).o.ln = 5 ∧ (tkUp (tkUp (tkUp x))).o.ln = 6 ∧ (tkUp (tkUp (tkUp (tkUp x)))).o.ln = 7 ∧
    Tk5 x (tkUp (tkUp (tkUp (tkUp (tkUp x))))) s (hSlot (mget x.S.M (key 9 s 2))) ∧
    (tkUp (tkUp (tkUp (tkUp (tkUp x))))).o = teO (x.n + 1) x.S ⟨7, h, s, eAt x.S.M s⟩ := by
  obtain ⟨S, o, n, E⟩ := x
  subst hx
  have e1 : tkUp ⟨S, ⟨3, h, s, e⟩, n, E⟩ = ⟨mLoad S 9 s 0, ⟨4, h, s, ⟨s, hdrG (mget S.M (key 9 s 0)), false, e.birth, e.epoch, e.era⟩⟩, n, E⟩ := by
    unfold tkUp; rw [teY_eq, teX_eq, teNX_eq, teEX_eq]; rfl
  have e2 : tkUp ⟨mLoad S 9 s 0, ⟨4, h, s, ⟨s, hdrG (mget S.M (key 9 s 0)), false, e.birth, e.epoch, e.era⟩⟩, n, E⟩ = ⟨mLoad (mLoad S 9 s 0) 9 s 1, ⟨5, h, s, ⟨s, hdrG (mget S.M (key 9 s 0)), false, mget S.M (key 9 s 1), e.epoch, e.era⟩⟩, n, E⟩ := by
    unfold tkUp; rw [teY_eq, teX_eq, teNX_eq, teEX_eq]; rfl
  have e3 : tkUp ⟨mLoad (mLoad S 9 s 0) 9 s 1, ⟨5, h, s, ⟨s, hdrG (mget S.M (key 9 s 0)), false, mget S.M (key 9 s 1), e.epoch, e.era⟩⟩, n, E⟩ = ⟨mLoad (mLoad (mLoad S 9 s 0) 9 s 1) 9 s 3, ⟨6, h, s, ⟨s, hdrG (mget S.M (key 9 s 0)), false, mget S.M (key 9 s 1), mget S.M (key 9 s 3), e.era⟩⟩, n, E⟩ := by
    unfold tkUp; rw [teY_eq, teX_eq, teNX_eq, teEX_eq]; rfl
  have e4 : tkUp ⟨mLoad (mLoad (mLoad S 9 s 0) 9 s 1) 9 s 3, ⟨6, h, s, ⟨s, hdrG (mget S.M (key 9 s 0)), false, mget S.M (key 9 s 1), mget S.M (key 9 s 3), e.era⟩⟩, n, E⟩ = ⟨mLoad (mLoad (mLoad (mLoad S 9 s 0) 9 s 1) 9 s 3) 9 s 4, ⟨7, h, s, eAt S.M s⟩, n + 1, addY n E (eAt S.M s)⟩ := by
    unfold tkUp; rw [teY_eq, teX_eq, teNX_eq, teEX_eq]; rfl
  have e5 : tkUp ⟨mLoad (mLoad (mLoad (mLoad S 9 s 0) 9 s 1) 9 s 3) 9 s 4, ⟨7, h, s, eAt S.M s⟩, n + 1, addY n E (eAt S.M s)⟩ = ⟨mLoad (mLoad (mLoad (mLoad (mLoad S 9 s 0) 9 s 1) 9 s 3) 9 s 4) 9 s 2, teO (n + 1) S ⟨7, h, s, eAt S.M s⟩, n + 1, addY n E (eAt S.M s)⟩ := by
    unfold tkUp; rw [teY_eq, teX_eq, teNX_eq, teEX_eq]; rfl
  rw [e1, e2, e3, e4, e5]
  exact ⟨rfl, rfl, rfl, rfl, ⟨rfl, rfl, rfl, hu⟩, rfl⟩
/-! ### a Take of the document by one alone, beside the program's -/
structure RI where
  R : RS
  o : TO
  n : Nat
  E : Nat → Enty
noncomputable def rkUp (x : RI) : RI := ⟨rkYX x.R x.o, rkX x.n x.R x.o, teNX x.n x.o, rkEX x.n x.E x.R x.o⟩
noncomputable def rkIt (R : RS) : Nat → RI
  | 0 => ⟨R, ⟨1, 0, 0, y0⟩, 0, fun _ => y0⟩
  | i + 1 => rkUp (rkIt R i)
structure Sim (x : TI) (y : RI) : Prop where
  b : Both x.S y.R
  ln : x.o.ln = y.o.ln
  h : x.o.h = y.o.h
  n : x.n = y.n
  E : ∀ i, i < x.n → x.E i = y.E i
  sl : 3 ≤ x.o.ln → x.o.sl = y.o.sl
  e0 : 4 ≤ x.o.ln → x.o.e.slot = y.o.e.slot ∧ x.o.e.gen = y.o.e.gen ∧ x.o.e.mark = y.o.e.mark
  e1 : 5 ≤ x.o.ln → x.o.e.birth = y.o.e.birth
  e2 : 6 ≤ x.o.ln → x.o.e.epoch = y.o.e.epoch
theorem tk_eqs (x : TI) : tkUp x = ⟨teS x.S x.o, teO x.n x.S x.o, teN x.n x.o, teE x.n x.E x.S x.o⟩ := by unfold tkUp; rw [teY_eq, teX_eq, teNX_eq, teEX_eq]
theorem rk_eqs (x : RI) : rkUp x = ⟨rkS x.R x.o, rkO x.n x.R x.o, teN x.n x.o, rkE x.n x.E x.R x.o⟩ := by unfold rkUp; rw [rkYX_eq, rkX_eq, teNX_eq, rkEX_eq]
theorem sim_up {x : TI} {y : RI} (h : Sim x y) (hl : TLn x.o.ln) : Sim (tkUp x) (rkUp y) := by
  rw [tk_eqs, rk_eqs]
  obtain ⟨S, ⟨ln, hd, sl, e⟩, n, E⟩ := x
  obtain ⟨R, ⟨ln', hd', sl', e'⟩, n', E'⟩ := y
  obtain ⟨b, h1, h2, h3, h4, h5, h6, h7, h8⟩ := h
  simp only at b h1 h2 h3 h4 h5 h6 h7 h8 hl
  subst h1; subst h2; subst h3
  have ag : ∀ k a f, dWord R.D k a f = mget S.M (key k a f) := fun k a f => (b.agr k a f).symm
  rcases hl with rfl | rfl | rfl | rfl | rfl | rfl | rfl | rfl
  · exact ⟨b, rfl, rfl, rfl, h4, fun q => absurd q (show ¬ (3 : Int) ≤ 0 by decide), fun q => absurd q (show ¬ (4 : Int) ≤ 0 by decide), fun q => absurd q (show ¬ (5 : Int) ≤ 0 by decide), fun q => absurd q (show ¬ (6 : Int) ≤ 0 by decide)⟩
  · by_cases q : hSlot (mget S.M (key 4 0 0)) < 0
    · have e1 : teO n S ⟨1, hd, sl, e⟩ = _ := teO_1a q
      have e2 : rkO n R ⟨1, hd, sl', e'⟩ = _ := rkO_1a (by rw [ag]; exact q)
      rw [e1, e2]
      exact ⟨b.load _ _ _, rfl, (ag _ _ _).symm, rfl, h4, fun q => absurd q (show ¬ (3 : Int) ≤ 0 by decide), fun q => absurd q (show ¬ (4 : Int) ≤ 0 by decide), fun q => absurd q (show ¬ (5 : Int) ≤ 0 by decide), fun q => absurd q (show ¬ (6 : Int) ≤ 0 by decide)⟩
    · have e1 : teO n S ⟨1, hd, sl, e⟩ = _ := teO_1b q
      have e2 : rkO n R ⟨1, hd, sl', e'⟩ = _ := rkO_1b (by rw [ag]; exact q)
      rw [e1, e2]
      exact ⟨b.load _ _ _, rfl, (ag _ _ _).symm, rfl, h4, fun q => absurd q (show ¬ (3 : Int) ≤ 2 by decide), fun q => absurd q (show ¬ (4 : Int) ≤ 2 by decide), fun q => absurd q (show ¬ (5 : Int) ≤ 2 by decide), fun q => absurd q (show ¬ (6 : Int) ≤ 2 by decide)⟩
  · by_cases q : casD S.M 4 0 0 hd = true
    · have e1 : teO n S ⟨2, hd, sl, e⟩ = _ := teO_2a q
      have e2 : rkO n R ⟨2, hd, sl', e'⟩ = _ := rkO_2a (by rw [← b.agr.casD]; exact q)
      rw [e1, e2]
      exact ⟨b.cas _ _ _ _ _, rfl, rfl, rfl, h4, fun _ => rfl, fun q => absurd q (show ¬ (4 : Int) ≤ 3 by decide), fun q => absurd q (show ¬ (5 : Int) ≤ 3 by decide), fun q => absurd q (show ¬ (6 : Int) ≤ 3 by decide)⟩
    · have e1 : teO n S ⟨2, hd, sl, e⟩ = _ := teO_2b q
      have e2 : rkO n R ⟨2, hd, sl', e'⟩ = _ := rkO_2b (by rw [← b.agr.casD]; exact q)
      rw [e1, e2]
      exact ⟨b.cas _ _ _ _ _, rfl, rfl, rfl, h4, fun q => absurd q (show ¬ (3 : Int) ≤ 1 by decide), fun q => absurd q (show ¬ (4 : Int) ≤ 1 by decide), fun q => absurd q (show ¬ (5 : Int) ≤ 1 by decide), fun q => absurd q (show ¬ (6 : Int) ≤ 1 by decide)⟩
  · obtain rfl := h5 (by decide)
    refine ⟨b.load _ _ _, rfl, rfl, rfl, h4, fun _ => rfl, fun _ => ⟨rfl, ?_, rfl⟩, fun q => absurd q (show ¬ (5 : Int) ≤ 4 by decide), fun q => absurd q (show ¬ (6 : Int) ≤ 4 by decide)⟩
    show hdrG _ = hdrG _
    rw [ag]
  · obtain rfl := h5 (by decide)
    refine ⟨b.load _ _ _, rfl, rfl, rfl, h4, fun _ => rfl, fun _ => h6 (by decide), fun _ => ?_, fun q => absurd q (show ¬ (6 : Int) ≤ 5 by decide)⟩
    exact (ag _ _ _).symm
  · obtain rfl := h5 (by decide)
    refine ⟨b.load _ _ _, rfl, rfl, rfl, h4, fun _ => rfl, fun _ => h6 (by decide), fun _ => h7 (by decide), fun _ => ?_⟩
    exact (ag _ _ _).symm
  · obtain rfl := h5 (by decide)
    obtain ⟨g1, g2, g3⟩ := h6 (by decide)
    have g4 := h7 (by decide)
    have g5 := h8 (by decide)
    refine ⟨b.load _ _ _, rfl, rfl, rfl, ?_, fun _ => rfl, fun _ => ⟨g1, g2, g3⟩, fun _ => g4, fun _ => g5⟩
    intro i hi
    show addY n E _ i = addY n E' _ i
    have hi : i < n + 1 := hi
    by_cases c : i < n
    · rw [addY_lt c, addY_lt c]; exact h4 i c
    · have : i = n := by omega
      subst this
      rw [addY_eq, addY_eq]
      rw [g1, g2, g3, g4, g5, ag]
  · obtain rfl := h5 (by decide)
    by_cases q : hSlot (mget S.M (key 9 sl 2)) < 0 ∨ 256 ≤ n
    · have e1 : teO n S ⟨7, hd, sl, e⟩ = _ := teO_7a q
      have e2 : rkO n R ⟨7, hd, sl, e'⟩ = _ := rkO_7a (by rw [ag]; exact q)
      rw [e1, e2]
      exact ⟨b.load _ _ _, rfl, rfl, rfl, h4, fun q => absurd q (show ¬ (3 : Int) ≤ 0 by decide), fun q => absurd q (show ¬ (4 : Int) ≤ 0 by decide), fun q => absurd q (show ¬ (5 : Int) ≤ 0 by decide), fun q => absurd q (show ¬ (6 : Int) ≤ 0 by decide)⟩
    · have e1 : teO n S ⟨7, hd, sl, e⟩ = _ := teO_7b q
      have e2 : rkO n R ⟨7, hd, sl, e'⟩ = _ := rkO_7b (by rw [ag]; exact q)
      rw [e1, e2]
      refine ⟨b.load _ _ _, rfl, rfl, rfl, h4, fun _ => ?_, fun q => absurd q (show ¬ (4 : Int) ≤ 3 by decide), fun q => absurd q (show ¬ (5 : Int) ≤ 3 by decide), fun q => absurd q (show ¬ (6 : Int) ≤ 3 by decide)⟩
      show hSlot _ = hSlot _
      rw [ag]
theorem sim_all {S : MS} {R : RS} (h : Both S R) (u : U64 S) : ∀ i, Sim (tkIt S i) (rkIt R i)
  | 0 => ⟨h, rfl, rfl, rfl, fun _ _ => rfl, fun q => absurd q (by show ¬ (3 : Int) ≤ 1; decide), fun q => absurd q (by show ¬ (4 : Int) ≤ 1; decide), fun q => absurd q (by show ¬ (5 : Int) ≤ 1; decide), fun q => absurd q (by show ¬ (6 : Int) ≤ 1; decide)⟩
  | i + 1 => sim_up (sim_all h u i) (tkIt_ok u i).2.1.l
/-! ### slots in a ring -/
structure Rg (S : MS) (Q : Int → Prop) : Prop where
  u : U64 S
  hd : ∃ s, Q s ∧ mget S.M (key 4 0 0) = s + 1
  lk : ∀ s, Q s → ∃ s', Q s' ∧ mget S.M (key 9 s 2) = s' + 1
  r : ∀ s, Q s → 0 ≤ s ∧ s < 256
theorem hSlot_1 {s : Int} (h0 : 0 ≤ s) (h1 : s < 256) : hSlot (s + 1) = s := by
  unfold hSlot
  have : (s + 1) % 65536 = s + 1 := by omega
  rw [this, if_pos (by omega)]; omega
structure RgAt (S : MS) (Q : Int → Prop) (j : Nat) : Prop where
  o : ∃ h s e, Q s ∧ (tkIt S (2 + 5 * j)).o = ⟨3, h, s, e⟩
  n : (tkIt S (2 + 5 * j)).n = j
  m : ∀ k a f, ¬ k = 4 → mget (tkIt S (2 + 5 * j)).S.M (key k a f) = mget S.M (key k a f)
  no : ∀ i, i ≤ 2 + 5 * j → ¬ (tkIt S i).o.ln = 0
theorem rg_at {S : MS} {Q : Int → Prop} (h : Rg S Q) : ∀ j, j < 256 → RgAt S Q j
  | 0, _ => by
    obtain ⟨s, hs, hd⟩ := h.hd
    have hr := h.r s hs
    have eo1 : (tkIt S 1).o = ⟨2, s + 1, 0, y0⟩ := by
      show teX _ _ _ = _
      rw [teX_eq]
      show teO 0 S ⟨1, 0, 0, y0⟩ = _
      rw [teO_1b (by rw [hd, hSlot_1 hr.1 hr.2]; omega), hd]
    have eS1 : (tkIt S 1).S = mLoad S 4 0 0 := by
      show teY _ _ = _
      rw [teY_eq]; rfl
    have hc : casD (mLoad S 4 0 0).M 4 0 0 (s + 1) = true := casD_o hd
    have eo2 : (tkIt S 2).o = ⟨3, s + 1, s, y0⟩ := by
      show teX _ _ _ = _
      rw [teX_eq, eo1, eS1, teO_2a hc, hSlot_1 hr.1 hr.2]
    have en1 : (tkIt S 1).n = 0 := by show teNX _ _ = _; rw [teNX_eq]; rfl
    have en2 : (tkIt S 2).n = 0 := by show teNX _ _ = _; rw [teNX_eq, eo1, en1]; rfl
    refine ⟨⟨_, s, _, hs, eo2⟩, en2, fun k a f hk => ?_, fun i hi => ?_⟩
    · show mget (teY _ _).M _ = _
      rw [teY_eq, eo1, eS1]
      show mget (casM S.M 4 0 0 _ _) _ = _
      rw [casM_put]
      split
      · rw [oput_ne (fun e => hk e.1)]
      · rfl
    · have : i = 0 ∨ i = 1 ∨ i = 2 := by omega
      rcases this with rfl | rfl | rfl
      · show ¬ (1 : Int) = 0; decide
      · rw [eo1]; show ¬ (2 : Int) = 0; decide
      · rw [eo2]; show ¬ (3 : Int) = 0; decide
  | j + 1, hj => by
    obtain ⟨⟨hh, s, e, hs, g1⟩, g2, g3, g4⟩ := rg_at h j (by omega)
    obtain ⟨l1, l2, l3, l4, f1, f2⟩ := tk_five g1 (by omega) (tkIt_ok h.u _).1
    have e5 : tkIt S (2 + 5 * (j + 1)) = tkUp (tkUp (tkUp (tkUp (tkUp (tkIt S (2 + 5 * j)))))) := by
      have : 2 + 5 * (j + 1) = 2 + 5 * j + 1 + 1 + 1 + 1 + 1 := by omega
      rw [this]; rfl
    obtain ⟨s', hs', hl⟩ := h.lk s hs
    have hr' := h.r s' hs'
    have hns : hSlot (mget (tkIt S (2 + 5 * j)).S.M (key 9 s 2)) = s' := by rw [g3 _ _ _ (by decide), hl, hSlot_1 hr'.1 hr'.2]
    have eo : (tkIt S (2 + 5 * (j + 1))).o = ⟨3, hh, s', eAt (tkIt S (2 + 5 * j)).S.M s⟩ := by rw [e5, f2, g2, teO_7b (by rw [hns]; omega), hns]
    refine ⟨⟨_, s', _, hs', eo⟩, by rw [e5, f1.n, g2], fun k a f hk => by rw [e5, f1.M]; exact g3 k a f hk, fun i hi => ?_⟩
    by_cases c : i ≤ 2 + 5 * j
    · exact g4 i c
    · have : i = 2 + 5 * j + 1 ∨ i = 2 + 5 * j + 1 + 1 ∨ i = 2 + 5 * j + 1 + 1 + 1 ∨ i = 2 + 5 * j + 1 + 1 + 1 + 1 ∨ i = 2 + 5 * (j + 1) := by omega
      rcases this with rfl | rfl | rfl | rfl | rfl
      · show ¬ (tkUp _).o.ln = 0; rw [l1]; decide
      · show ¬ (tkUp (tkUp _)).o.ln = 0; rw [l2]; decide
      · show ¬ (tkUp (tkUp (tkUp _))).o.ln = 0; rw [l3]; decide
      · show ¬ (tkUp (tkUp (tkUp (tkUp _)))).o.ln = 0; rw [l4]; decide
      · rw [eo]; show ¬ (3 : Int) = 0; decide
structure RgEnd (S : MS) : Prop where
  no : ∀ i, i < 1282 → ¬ (tkIt S i).o.ln = 0
  ov : (tkIt S 1282).o.ln = 0
  n : (tkIt S 1282).n = 256
theorem rg_end {S : MS} {Q : Int → Prop} (h : Rg S Q) : RgEnd S := by
  obtain ⟨⟨hh, s, e, hs, g1⟩, g2, g3, g4⟩ := rg_at h 255 (by omega)
  obtain ⟨l1, l2, l3, l4, f1, f2⟩ := tk_five g1 (by omega) (tkIt_ok h.u _).1
  have e5 : tkIt S 1282 = tkUp (tkUp (tkUp (tkUp (tkUp (tkIt S (2 + 5 * 255)))))) := rfl
  refine ⟨fun i hi => ?_, ?_, ?_⟩
  · by_cases c : i ≤ 2 + 5 * 255
    · exact g4 i c
    · have : i = 2 + 5 * 255 + 1 ∨ i = 2 + 5 * 255 + 1 + 1 ∨ i = 2 + 5 * 255 + 1 + 1 + 1 ∨ i = 2 + 5 * 255 + 1 + 1 + 1 + 1 := by omega
      rcases this with rfl | rfl | rfl | rfl
      · show ¬ (tkUp _).o.ln = 0; rw [l1]; decide
      · show ¬ (tkUp (tkUp _)).o.ln = 0; rw [l2]; decide
      · show ¬ (tkUp (tkUp (tkUp _))).o.ln = 0; rw [l3]; decide
      · show ¬ (tkUp (tkUp (tkUp (tkUp _)))).o.ln = 0; rw [l4]; decide
  · rw [e5, f2, g2, teO_7a (.inr (by omega))]
  · rw [e5, f1.n, g2]
end Go.Proofs.YtmndhjodbnojdaaDoor
