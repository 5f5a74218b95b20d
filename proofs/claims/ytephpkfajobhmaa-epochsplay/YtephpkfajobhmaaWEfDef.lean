/-
  EpochsPlay: its operations as a family: definitions, plain facts.
-/
import Derived.Test.YtephpkfajobhmaaWEc
import Derived.Test.YtephpkfajobhmaaWEn
import Derived.Test.YtephpkfajobhmaaWSww
import Derived.Test.YtephpkfajobhmaaEvFam
set_option linter.unusedSimpArgs false
set_option linter.unusedVariables false
namespace Go.Proofs.Ytephpkfajobhmaa
open Go.Ev
structure EO where
  k : Nat
  at_ : Int
  e : Int
  th : Int
  t2 : Int
  b : Int
  mv : Bool
structure ET where
  S : MS
  R : RS
  n : Nat
  O : Nat → EO
def eMb (o : EO) : Mb := match o.k with
  | 0 => ⟨[.ptr 0 0 0, .nilp, .nilp, .ptr 1 0 0], [(0, .cells 3 [.sym .i64 o.at_, .sym .u64 o.e, .sym .i64 o.th]), (1, .cells 6 [.sym .i64 0, .sym .i64 o.t2, .sym .i64 (ln0 o.at_), .symb o.mv, .sym .u64 o.e, .sym .u64 o.b])]⟩
  | 1 => ⟨[.nilp, .ptr 0 0 0, .nilp, .ptr 1 0 0], [(0, .cells 3 [.sym .i64 o.at_, .sym .u64 o.e, .sym .i64 o.th]), (1, .cells 6 [.sym .i64 1, .sym .i64 o.t2, .sym .i64 o.at_, .symb o.mv, .sym .u64 o.e, .sym .u64 o.b])]⟩
  | _ => ⟨[.nilp, .nilp, .ptr 0 0 0, .ptr 1 0 0], [(0, .cells 5 [.sym .i64 o.at_, .sym .u64 o.e, .sym .i64 o.th, .sym .i64 (4 * o.b), .symb o.mv]), (1, .cells 6 [.sym .i64 2, .sym .i64 o.th, .sym .i64 o.at_, .symb o.mv, .sym .u64 o.e, .sym .u64 o.b])]⟩
/-- What an operation is, at every time. -/
def EoOk (o : EO) : Prop := (0 ≤ o.e ∧ o.e < 18446744073709551616) ∧ match o.k with
  | 0 => (o.at_ = 0 ∨ o.at_ = 1 ∨ o.at_ = 4) ∧ (o.at_ ≠ 0 → o.t2 = o.th)
  | 1 => (o.at_ = 0 ∨ o.at_ = 1) ∧ (o.at_ ≠ 0 → o.t2 = o.th)
  | _ => (o.at_ = 0 ∨ o.at_ = 1 ∨ o.at_ = 2 ∨ o.at_ = 3 ∨ o.at_ = 4) ∧ (o.at_ = 1 ∨ o.at_ = 2 → o.th = 0) ∧ (o.at_ = 3 → 0 ≤ o.th ∧ o.th < 4 * o.b ∧ o.b ≤ 4)
def eoO (S : MS) (o : EO) : EO := match o.k with
  | 0 => ⟨0, eA0 o.at_, eE0 S o.at_ o.e, o.th, o.t2, o.b, o.mv⟩
  | 1 => ⟨1, 0, o.e, o.th, o.t2, o.b, o.mv⟩
  | _ => ⟨2, eA2 S o.at_ o.e o.th o.b, eE0 S o.at_ o.e, eT2 o.at_ o.th, 0, eB2 S o.at_ o.b, eV2 S o.at_ o.e o.mv⟩
def eoS (S : MS) (o : EO) : MS := match o.k with
  | 0 => eS0 S o.at_ o.e o.th
  | 1 => eS1 S o.at_ o.th
  | _ => eS2 S o.at_ o.e o.th
def eoR (S : RS) (o : EO) : RS := match o.k with
  | 0 => eR0 S o.at_ o.e o.th
  | 1 => eR1 S o.at_ o.th
  | _ => eR2 S o.at_ o.e o.th
def U64 (S : MS) : Prop := ∀ k, 0 ≤ mget S.M k ∧ mget S.M k < 18446744073709551616
theorem inE_r (e : Int) : 0 ≤ inE e ∧ inE e < 18446744073709551616 := by
  unfold inE
  show 0 ≤ _ % 18446744073709551616 ∧ _ % 18446744073709551616 < 18446744073709551616
  omega
theorem w64_r (e : Int) : 0 ≤ IntKind.u64.wrap e ∧ IntKind.u64.wrap e < 18446744073709551616 := by
  show 0 ≤ e % 18446744073709551616 ∧ e % 18446744073709551616 < 18446744073709551616
  omega
theorem mset_r {M : List Int → Option Int} {k : List Int} {v : Int} (h : ∀ k, 0 ≤ mget M k ∧ mget M k < 18446744073709551616) (hv : 0 ≤ v ∧ v < 18446744073709551616) : ∀ q, 0 ≤ mget (setKey M k (some v)) q ∧ mget (setKey M k (some v)) q < 18446744073709551616 := by
  intro q
  unfold mget setKey
  by_cases e : q = k
  · simp only [e, if_true]; exact hv
  · simp only [e, if_false]; exact h q
theorem U64.store {S : MS} (h : U64 S) (k a f v : Int) (hv : 0 ≤ v ∧ v < 18446744073709551616) : U64 (mStore S k a f v) := by
  unfold U64 mStore memPut
  cases mayA k a f with
  | true => exact mset_r h hv
  | false => exact h
theorem U64.cas {S : MS} (h : U64 S) (k a f w v : Int) (hv : 0 ≤ v ∧ v < 18446744073709551616) : U64 (mCas S k a f w v) := by
  unfold U64 mCas casM
  cases casD S.M k a f w with
  | true => exact mset_r h hv
  | false => exact h
theorem U64.load {S : MS} (h : U64 S) (k a f : Int) : U64 (mLoad S k a f) := h
theorem U64.nil : U64 ms0 := fun k => ⟨Int.le_refl _, by show (0 : Int) < _; decide⟩
/-- Memories as the loop has them. -/
structure Fin2 (S : MS) (R : RS) (n : Nat) : Prop where
  fine : Fine S R n
  u : U64 S
theorem eo_mem {S : MS} {R : RS} {n : Nat} (h : Fin2 S R n) (o : EO) : Fin2 (eoS S o) (eoR R o) (n + 1) := by
  have l : ∀ k a f, Fin2 (mLoad S k a f) (rLoad R k a f) (n + 1) := fun k a f => ⟨(h.fine.load k a f).mono (by omega), h.u⟩
  have s : ∀ k a f v, (0 ≤ v ∧ v < 18446744073709551616) → Fin2 (mStore S k a f v) (rStore R k a f v) (n + 1) := fun k a f v hv => ⟨h.fine.store k a f v, h.u.store k a f v hv⟩
  have c : ∀ k a f w v, (0 ≤ v ∧ v < 18446744073709551616) → Fin2 (mCas S k a f w v) (rCas R k a f w v) (n + 1) := fun k a f w v hv => ⟨h.fine.cas k a f w v, h.u.cas k a f w v hv⟩
  have z : Fin2 S R (n + 1) := ⟨h.fine.mono (by omega), h.u⟩
  unfold eoS eoR
  split
  · unfold eS0 eR0
    repeat' split
    · exact l ..
    · exact s _ _ _ _ (inE_r _)
    · exact z
  · unfold eS1 eR1
    repeat' split
    · exact s _ _ _ _ (by decide)
    · exact z
  · unfold eS2 eR2
    repeat' split
    · exact l ..
    · exact l ..
    · exact l ..
    · exact c _ _ _ _ _ (w64_r _)
    · exact z
theorem min4_le {x : Int} (h : 0 ≤ x) : 0 ≤ min4 x ∧ min4 x ≤ 4 := by unfold min4; split <;> omega
theorem eo_ok {S : MS} (h : U64 S) {o : EO} (ho : EoOk o) : EoOk (eoO S o) := by
  obtain ⟨k, a, e, th, t2, b, mv⟩ := o
  obtain ⟨he, ho⟩ := ho
  have heE : 0 ≤ eE0 S a e ∧ eE0 S a e < 18446744073709551616 := by
    unfold eE0; split
    · exact h _
    · exact he
  match k, ho with
  | 0, ho =>
    obtain ⟨h1, h2⟩ := ho
    refine ⟨heE, ?_, ?_⟩
    · show eA0 a = 0 ∨ eA0 a = 1 ∨ eA0 a = 4
      unfold eA0; split <;> simp
    · show eA0 a ≠ 0 → t2 = th
      unfold eA0; split
      · rename_i e1; exact fun _ => h2 (by show a ≠ 0; omega)
      · intro q; exact (q rfl).elim
  | 1, ho => exact ⟨he, .inl rfl, fun q => (q rfl).elim⟩
  | k + 2, ho =>
    obtain ⟨h1, h2, h3⟩ := ho
    have m4 := min4_le (h (key 5 0 0)).1
    have h1 : a = 0 ∨ a = 1 ∨ a = 2 ∨ a = 3 ∨ a = 4 := h1
    have h2 : a = 1 ∨ a = 2 → th = 0 := h2
    have h3 : a = 3 → 0 ≤ th ∧ th < 4 * b ∧ b ≤ 4 := h3
    refine ⟨heE, ?_⟩
    show (eA2 S a e th b = 0 ∨ eA2 S a e th b = 1 ∨ eA2 S a e th b = 2 ∨ eA2 S a e th b = 3 ∨ eA2 S a e th b = 4) ∧ (eA2 S a e th b = 1 ∨ eA2 S a e th b = 2 → eT2 a th = 0) ∧ (eA2 S a e th b = 3 → 0 ≤ eT2 a th ∧ eT2 a th < 4 * eB2 S a b ∧ eB2 S a b ≤ 4)
    rcases h1 with rfl | rfl | rfl | rfl | rfl
    · exact ⟨.inl rfl, (fun q => absurd q (by show ¬ ((0 : Int) = 1 ∨ (0 : Int) = 2); decide)), (fun q => absurd q (by show ¬ ((0 : Int) = 3); decide))⟩
    · exact ⟨.inr (.inr (.inl rfl)), (fun _ => h2 (.inl rfl)), (fun q => absurd q (by show ¬ ((2 : Int) = 3); decide))⟩
    · have t0 := h2 (.inr rfl)
      subst t0
      have e1 : eA2 S 2 e 0 b = if min4 (mget S.M (key 5 0 0)) = 0 then 4 else 3 := rfl
      have e2 : eB2 S 2 b = min4 (mget S.M (key 5 0 0)) := rfl
      have e3 : eT2 2 0 = 0 := rfl
      rw [e1, e2, e3]
      split <;> refine ⟨by simp, by simp, ?_⟩
      · simp
      · intro _; omega
    · have q3 := h3 rfl
      have e1 : eA2 S 3 e th b = lkE S e th b := rfl
      have e2 : eB2 S 3 b = b := rfl
      have e3 : eT2 3 th = th + 1 := rfl
      rw [e1, e2, e3]
      unfold lkE
      repeat' split
      · exact ⟨by simp, by simp, by simp⟩
      · exact ⟨by simp, by simp, by simp⟩
      · exact ⟨by simp, by simp, fun _ => by omega⟩
    · exact ⟨.inl rfl, (fun q => absurd q (by show ¬ ((0 : Int) = 1 ∨ (0 : Int) = 2); decide)), (fun q => absurd q (by show ¬ ((0 : Int) = 3); decide))⟩
/-- Which operation takes a step. -/
def jX (r : Nat → AV) (n : Nat) : Nat := ((IntKind.u64.wrap (avInt (r 1))).tmod (IntKind.u64.wrap (Int.ofNat n))).toNat
theorem jX_lt (r : Nat → AV) {n : Nat} (h0 : n ≠ 0) (h1 : n ≤ 1000) : jX r n < n ∧ 0 ≤ (IntKind.u64.wrap (avInt (r 1))).tmod (IntKind.u64.wrap (Int.ofNat n)) := by
  have hn : IntKind.u64.wrap (Int.ofNat n) = (n : Int) := u64w (by simp) (by simp; omega)
  have hw := (w64_r (avInt (r 1))).1
  unfold jX
  rw [hn, Int.tmod_eq_emod_of_nonneg hw]
  have a := Int.emod_nonneg (IntKind.u64.wrap (avInt (r 1))) (b := (n : Int)) (by omega)
  have b := Int.emod_lt_of_pos (IntKind.u64.wrap (avInt (r 1))) (b := (n : Int)) (by omega)
  omega
def etAdd (x : ET) (o : EO) : ET := ⟨x.S, x.R, x.n + 1, fun i => if i = x.n then o else x.O i⟩
def eNew (k : Nat) (w : Int) : EO := match k with
  | 0 => ⟨0, inT w, 0, w, nT 0 w, 0, false⟩
  | 1 => ⟨1, inT w, 0, w, nT 1 w, 0, false⟩
  | _ => ⟨2, 1, 0, 0, 0, 0, false⟩
def etDo (x : ET) (j : Nat) : ET := ⟨eoS x.S (x.O j), eoR x.R (x.O j), x.n, fun i => if i = j then eoO x.S (x.O j) else x.O i⟩
def etStep (r : Nat → AV) (x : ET) : ET :=
  if (IntKind.i64.wrap (avInt (r 0))).tmod 8 = 0 then etAdd x (eNew 0 (avInt (r 1)))
  else if (IntKind.i64.wrap (avInt (r 0))).tmod 8 = 1 then etAdd x (eNew 1 (avInt (r 1)))
  else if (IntKind.i64.wrap (avInt (r 0))).tmod 8 = 2 then etAdd x (eNew 2 (avInt (r 1)))
  else if (IntKind.i64.wrap (avInt (r 0))).tmod 8 = 3 then ⟨mStore x.S (avInt (r 2)) (avInt (r 3)) (avInt (r 4)) (avInt (r 5)), rStore x.R (avInt (r 2)) (avInt (r 3)) (avInt (r 4)) (avInt (r 5)), x.n, x.O⟩
  else if x.n = 0 then x else etDo x (jX r x.n)
def etN (f h : Nat → Nat → AV) (q : Nat) : Nat → ET
  | 0 => ⟨msN (bgW h) q, rsN (bgW h) q, 0, fun _ => ⟨0, 0, 0, 0, 0, 0, false⟩⟩
  | n + 1 => etStep (f n) (etN f h q n)
theorem inT_r (w : Int) : inT w = 0 ∨ inT w = 1 := by unfold inT; split <;> simp
theorem z0 : (0 : Int) ≤ 0 ∧ (0 : Int) < 18446744073709551616 := by decide
theorem eNew_ok (k : Nat) (w : Int) : EoOk (eNew k w) := by
  match k with
  | 0 =>
    refine ⟨z0, ?_, fun h => ?_⟩
    · show inT w = 0 ∨ inT w = 1 ∨ inT w = 4
      rcases inT_r w with h | h <;> simp [h]
    · show nT 0 w = w
      have h1 : inT w = 1 := (inT_r w).elim (fun q => (h q).elim) id
      unfold nT; rw [if_neg (by decide), if_pos h1]
  | 1 =>
    refine ⟨z0, inT_r w, fun h => ?_⟩
    show nT 1 w = w
    have h1 : inT w = 1 := (inT_r w).elim (fun q => (h q).elim) id
    unfold nT; rw [if_neg (by decide), if_pos h1]
  | k + 2 => exact ⟨z0, .inr (.inl rfl), fun _ => rfl, fun q => absurd q (by show ¬ ((1 : Int) = 3); decide)⟩
structure EtOk (x : ET) (i q : Nat) : Prop where
  f : Fin2 x.S x.R (q + i)
  n : x.n ≤ i
  o : ∀ j, EoOk (x.O j)
theorem etStep_ok {r : Nat → AV} {x : ET} {i q : Nat} (h : EtOk x i q) (hr : 0 ≤ avInt (r 5) ∧ avInt (r 5) < 18446744073709551616) : EtOk (etStep r x) (i + 1) q := by
  have z : Fin2 x.S x.R (q + (i + 1)) := ⟨h.f.fine.mono (by omega), h.f.u⟩
  have add : ∀ k w, EtOk (etAdd x (eNew k w)) (i + 1) q := fun k w => ⟨z, by have := h.n; show x.n + 1 ≤ i + 1; omega, fun j => by
    show EoOk (if j = x.n then eNew k w else x.O j)
    split
    · exact eNew_ok k w
    · exact h.o j⟩
  unfold etStep
  repeat' split
  · exact add 0 _
  · exact add 1 _
  · exact add 2 _
  · exact ⟨⟨h.f.fine.store .., h.f.u.store _ _ _ _ hr⟩, by have := h.n; show x.n ≤ i + 1; omega, h.o⟩
  · exact ⟨z, by have := h.n; omega, h.o⟩
  · refine ⟨eo_mem h.f _, by have := h.n; show x.n ≤ i + 1; omega, fun j => ?_⟩
    show EoOk (if j = jX r x.n then eoO x.S (x.O (jX r x.n)) else x.O j)
    split
    · exact eo_ok h.f.u (h.o _)
    · exact h.o j
theorem etN_ok {f h : Nat → Nat → AV} {q : Nat} (hq : U64 (msN (bgW h) q)) : ∀ i, (∀ k, k < i → 0 ≤ avInt (f k 5) ∧ avInt (f k 5) < 18446744073709551616) → EtOk (etN f h q i) i q
  | 0, _ => ⟨⟨fineN (bgW h) q, hq⟩, Nat.le_refl _, fun j => ⟨z0, .inl rfl, fun q => (q rfl).elim⟩⟩
  | i + 1, hr => etStep_ok (etN_ok hq i (fun k hk => hr k (by omega))) (hr i (by omega))
theorem msN_u {W : Nat → Wd} : ∀ n, (∀ i, i < n → 0 ≤ (W i).v ∧ (W i).v < 18446744073709551616) → U64 (msN W n)
  | 0, _ => U64.nil
  | n + 1, h => U64.store (msN_u n (fun i hi => h i (by omega))) _ _ _ _ (by rw [Nat.zero_add]; exact h n (by omega))
end Go.Proofs.Ytephpkfajobhmaa
