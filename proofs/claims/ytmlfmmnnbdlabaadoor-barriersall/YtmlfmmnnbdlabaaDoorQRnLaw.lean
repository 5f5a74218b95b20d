/-
  BarriersAll: what a Barrier does over a memory that stays.
-/
import Derived.Test.YtmlfmmnnbdlabaaDoorQRn
set_option linter.unusedSimpArgs false
set_option linter.unusedVariables false
namespace Go.Proofs.YtmlfmmnnbdlabaaDoor
open Go.Ev
/-- A thread that a Barrier waits for. -/
def blk (M : List Int → Option Int) (nb t : Int) : Prop := mget M (key 8 t 0) ≠ 0 ∧ mget M (key 8 t 1) ≠ 0 ∧ bpReach nb (mget M (key 8 t 2)) = false ∧ mget M (key 8 t 6) = 0
structure RnOn (X : MS) (nb lk0 al : Int) (k : Nat) (y : RQ) : Prop where
  M : y.S.M = X.M
  st : y.S.st = IntKind.i64.wrap (X.st + Int.ofNat (k + 1))
  on : y.x.on = true
  a : 0 ≤ y.x.at_ ∧ y.x.at_ ≤ 3
  th : 0 ≤ y.x.th ∧ y.x.th < al
  lk : 1 ≤ y.x.lk ∧ y.x.lk ≤ lk0
  en : y.x.en = 0
  cnt : Int.ofNat k ≤ 4 * y.x.th + y.x.at_ + 4 * (lk0 - y.x.lk)
  bef : ∀ t, 0 ≤ t → t < y.x.th → ¬ blk X.M nb t
  c1 : 1 ≤ y.x.at_ → mget X.M (key 8 y.x.th 0) ≠ 0
  c2 : 2 ≤ y.x.at_ → mget X.M (key 8 y.x.th 1) ≠ 0
  c3 : 3 ≤ y.x.at_ → bpReach nb (mget X.M (key 8 y.x.th 2)) = false
  wt : y.x.wt = -1 ∨ y.x.wt = y.x.th ∧ blk X.M nb y.x.th
structure RnOff (X : MS) (nb lk0 al : Int) (k : Nat) (y : RQ) : Prop where
  M : y.S.M = X.M
  st : y.S.st = IntKind.i64.wrap (X.st + Int.ofNat (k + 1))
  on : y.x.on = false
  cnt : Int.ofNat k ≤ 4 * al + 4 * lk0
  e : y.x.en = 0 ∧ y.x.wt = -1 ∧ (∀ t, 0 ≤ t → t < al → ¬ blk X.M nb t) ∨ y.x.en = 9 ∧ 0 ≤ y.x.wt ∧ y.x.wt < al ∧ blk X.M nb y.x.wt ∧ ∀ t, 0 ≤ t → t < y.x.wt → ¬ blk X.M nb t
def rnPhi (al : Int) (y : RQ) : Int := 4 * (al - y.x.th) - y.x.at_ + 4 * (y.x.lk - 1)
theorem rn_wrap (a b : Int) : IntKind.i64.wrap (IntKind.i64.wrap a + b) = IntKind.i64.wrap (a + b) := by
  simp only [show ∀ x, IntKind.i64.wrap x = (if (true && decide (x % 18446744073709551616 ≥ (9223372036854775808 : Int))) = true then x % 18446744073709551616 - 18446744073709551616 else x % 18446744073709551616) from fun _ => rfl]
  simp only [Bool.true_and, decide_eq_true_eq]
  split <;> split <;> split <;> omega
/-- A word of a thread that passes, or does not. -/
theorem not_blk {M : List Int → Option Int} {nb at_ t : Int} (ha : 0 ≤ at_ ∧ at_ ≤ 3) (h : bpPass nb at_ (mget M (key 8 t (bpFld at_))) = true) : ¬ blk M nb t := by
  rintro ⟨b0, b1, b2, b3⟩
  rcases (show at_ = 0 ∨ at_ = 1 ∨ at_ = 2 ∨ at_ = 3 by omega) with rfl | rfl | rfl | rfl
  · exact b0 (of_decide_eq_true (show decide (mget M (key 8 t 0) = 0) = true from h))
  · exact b1 (of_decide_eq_true (show decide (mget M (key 8 t 1) = 0) = true from h))
  · rw [show bpPass nb 2 (mget M (key 8 t (bpFld 2))) = bpReach nb (mget M (key 8 t 2)) from rfl, b2] at h; cases h
  · exact (of_decide_eq_true (show decide (mget M (key 8 t 6) ≠ 0) = true from h)) b3
theorem rn_step {X : MS} {nb lk0 al : Int} {k : Nat} (hal : al ≤ 16) (h : RnOn X nb lk0 al k (rnN nb lk0 al X k)) : (RnOn X nb lk0 al (k + 1) (rnN nb lk0 al X (k + 1)) ∧ rnPhi al (rnN nb lk0 al X (k + 1)) < rnPhi al (rnN nb lk0 al X k)) ∨ RnOff X nb lk0 al (k + 1) (rnN nb lk0 al X (k + 1)) := by
  rw [rnN_succ]
  generalize rnN nb lk0 al X k = y at *
  obtain ⟨hM, hst, hon, ha, hth, hlk, hen, hcnt, hbef, c1, c2, c3, hwt⟩ := h
  have hM2 : (rnS nb al y).S.M = X.M := hM
  have hst2 : (rnS nb al y).S.st = IntKind.i64.wrap (X.st + Int.ofNat (k + 1 + 1)) := by
    show IntKind.i64.wrap (y.S.st + 1) = _
    rw [hst, rn_wrap]; congr 1; simp; omega
  have ex : (rnS nb al y).x = bpS nb al ⟨y.x.lk, y.x.th, y.x.at_, y.x.wt, y.x.en, true⟩ (mget X.M (key 8 y.x.th (bpFld y.x.at_))) := by
    rw [← hM]; rfl
  cases hp : bpPass nb y.x.at_ (mget X.M (key 8 y.x.th (bpFld y.x.at_))) with
  | true =>
    have hnb := not_blk ha hp
    rw [bpS_pass (x := ⟨y.x.lk, y.x.th, y.x.at_, y.x.wt, y.x.en, true⟩) hp] at ex
    have hb2 : ∀ t, 0 ≤ t → t < y.x.th + 1 → ¬ blk X.M nb t := fun t t0 t1 => by
      by_cases e : t = y.x.th
      · rw [e]; exact hnb
      · exact hbef t t0 (by omega)
    by_cases c : y.x.th + 1 < al
    · left
      refine ⟨⟨hM2, hst2, ?_, ?_, ?_, ?_, ?_, ?_, ?_, ?_, ?_, ?_, ?_⟩, ?_⟩
      · rw [ex]; exact decide_eq_true c
      · rw [ex]; exact ⟨Int.le_refl 0, (by decide : (0 : Int) ≤ 3)⟩
      · rw [ex]; show 0 ≤ y.x.th + 1 ∧ y.x.th + 1 < al; omega
      · rw [ex]; exact hlk
      · rw [ex]; exact hen
      · rw [ex]; show Int.ofNat (k + 1) ≤ 4 * (y.x.th + 1) + 0 + 4 * (lk0 - y.x.lk); simp at hcnt ⊢; omega
      · rw [ex]; exact hb2
      · rw [ex]; intro q; exact absurd (show (1 : Int) ≤ 0 from q) (by decide)
      · rw [ex]; intro q; exact absurd (show (2 : Int) ≤ 0 from q) (by decide)
      · rw [ex]; intro q; exact absurd (show (3 : Int) ≤ 0 from q) (by decide)
      · rw [ex]; exact .inl rfl
      · unfold rnPhi; rw [ex]; show 4 * (al - (y.x.th + 1)) - 0 + 4 * (y.x.lk - 1) < _; omega
    · right
      refine ⟨hM2, hst2, ?_, ?_, .inl ⟨?_, ?_, ?_⟩⟩
      · rw [ex]; exact decide_eq_false c
      · simp at hcnt ⊢; omega
      · rw [ex]; exact hen
      · rw [ex]
      · intro t t0 t1; exact hb2 t t0 (by omega)
  | false =>
    by_cases a5 : y.x.at_ = 3
    · have hb : blk X.M nb y.x.th := by
        refine ⟨c1 (by omega), c2 (by omega), c3 (by omega), ?_⟩
        rw [a5] at hp
        have : decide (mget X.M (key 8 y.x.th 6) ≠ 0) = false := hp
        exact Classical.not_not.1 (of_decide_eq_false this)
      by_cases hl1 : 1 < y.x.lk
      · rw [bpS_look (x := ⟨y.x.lk, y.x.th, y.x.at_, y.x.wt, y.x.en, true⟩) hp a5 hl1] at ex
        left
        refine ⟨⟨hM2, hst2, ?_, ?_, ?_, ?_, ?_, ?_, ?_, ?_, ?_, ?_, ?_⟩, ?_⟩
        · rw [ex]
        · rw [ex]; exact ⟨Int.le_refl 0, (by decide : (0 : Int) ≤ 3)⟩
        · rw [ex]; exact hth
        · rw [ex]; show 1 ≤ y.x.lk - 1 ∧ y.x.lk - 1 ≤ lk0; omega
        · rw [ex]; exact hen
        · rw [ex]; show Int.ofNat (k + 1) ≤ 4 * y.x.th + 0 + 4 * (lk0 - (y.x.lk - 1)); simp at hcnt ⊢; omega
        · rw [ex]; exact hbef
        · rw [ex]; intro q; exact absurd (show (1 : Int) ≤ 0 from q) (by decide)
        · rw [ex]; intro q; exact absurd (show (2 : Int) ≤ 0 from q) (by decide)
        · rw [ex]; intro q; exact absurd (show (3 : Int) ≤ 0 from q) (by decide)
        · rw [ex]; exact .inr ⟨rfl, hb⟩
        · unfold rnPhi; rw [ex]; show 4 * (al - y.x.th) - 0 + 4 * (y.x.lk - 1 - 1) < _; omega
      · rw [bpS_gone (x := ⟨y.x.lk, y.x.th, y.x.at_, y.x.wt, y.x.en, true⟩) hp a5 hl1] at ex
        right
        refine ⟨hM2, hst2, ?_, ?_, .inr ⟨?_, ?_, ?_, ?_, ?_⟩⟩
        · rw [ex]
        · simp at hcnt ⊢; omega
        · rw [ex]
        · rw [ex]; exact hth.1
        · rw [ex]; exact hth.2
        · rw [ex]; exact hb
        · rw [ex]; exact hbef
    · rw [bpS_fail (x := ⟨y.x.lk, y.x.th, y.x.at_, y.x.wt, y.x.en, true⟩) hp a5] at ex
      left
      have hq : ∀ j : Int, y.x.at_ = j → bpPass nb j (mget X.M (key 8 y.x.th (bpFld j))) = false := fun j e => by rw [← e]; exact hp
      refine ⟨⟨hM2, hst2, ?_, ?_, ?_, ?_, ?_, ?_, ?_, ?_, ?_, ?_, ?_⟩, ?_⟩
      · rw [ex]
      · rw [ex]; show 0 ≤ y.x.at_ + 1 ∧ y.x.at_ + 1 ≤ 3; omega
      · rw [ex]; exact hth
      · rw [ex]; exact hlk
      · rw [ex]; exact hen
      · rw [ex]; show Int.ofNat (k + 1) ≤ 4 * y.x.th + (y.x.at_ + 1) + 4 * (lk0 - y.x.lk); simp at hcnt ⊢; omega
      · rw [ex]; exact hbef
      · rw [ex]; intro q
        by_cases e : y.x.at_ = 0
        · exact of_decide_eq_false (show decide (mget X.M (key 8 y.x.th 0) = 0) = false from hq 0 e)
        · exact c1 (by omega)
      · rw [ex]; intro q
        have q : 2 ≤ y.x.at_ + 1 := q
        by_cases e : y.x.at_ = 1
        · exact of_decide_eq_false (show decide (mget X.M (key 8 y.x.th 1) = 0) = false from hq 1 e)
        · exact c2 (by omega)
      · rw [ex]; intro q
        have q : 3 ≤ y.x.at_ + 1 := q
        have e : y.x.at_ = 2 := by omega
        exact hq 2 e
      · rw [ex]; exact hwt
      · unfold rnPhi; rw [ex]; show 4 * (al - y.x.th) - (y.x.at_ + 1) + 4 * (y.x.lk - 1) < _; omega
theorem rn_run {X : MS} {nb lk0 al : Int} (hal : al ≤ 16) : ∀ (N k : Nat), RnOn X nb lk0 al k (rnN nb lk0 al X k) → rnPhi al (rnN nb lk0 al X k) ≤ N → ∃ K, k < K ∧ K ≤ k + N ∧ (∀ j, k ≤ j → j < K → RnOn X nb lk0 al j (rnN nb lk0 al X j)) ∧ RnOff X nb lk0 al K (rnN nb lk0 al X K)
  | 0, k, h, hN => by
    have h1 := h.lk
    have h2 := h.th
    have h3 := h.a
    unfold rnPhi at hN
    omega
  | N + 1, k, h, hN => by
    rcases rn_step hal h with ⟨h1, h2⟩ | h1
    · obtain ⟨K, k1, k2, k3, k4⟩ := rn_run hal N (k + 1) h1 (by simp at hN ⊢; omega)
      refine ⟨K, by omega, by omega, fun j j1 j2 => ?_, k4⟩
      by_cases c : j = k
      · subst c; exact h
      · exact k3 j (by omega) j2
    · exact ⟨k + 1, by omega, by omega, fun j j1 j2 => by
        have : j = k := by omega
        subst this; exact h, h1⟩
def rnAl (M : List Int → Option Int) : Int := 4 * (if 4 < mget M (key 5 0 0) then 4 else mget M (key 5 0 0))
def rnK (nb lk : Int) (X : MS) : Nat := fnd (fun k => !(rnN nb lk (rnAl X.M) X k).x.on) 400
theorem rn_ok {X : MS} {nb lk : Int} (hb : 0 ≤ mget X.M (key 5 0 0)) (hlk : 1 ≤ lk ∧ lk ≤ 60) :
    rnK nb lk X < 399 ∧ RnOk nb lk (rnAl X.M) X (rnK nb lk X) ∧ (rnAl X.M ≠ 0 → 0 < rnK nb lk X) ∧ (rnAl X.M = 0 → rnK nb lk X = 0) ∧ RnOff X nb lk (rnAl X.M) (rnK nb lk X) (rnN nb lk (rnAl X.M) X (rnK nb lk X)) := by
  have hal : 0 ≤ rnAl X.M ∧ rnAl X.M ≤ 16 := by unfold rnAl; split <;> omega
  have hst : (rnN nb lk (rnAl X.M) X 0).S.st = IntKind.i64.wrap (X.st + Int.ofNat (0 + 1)) := rfl
  by_cases c : rnAl X.M = 0
  · have hoff : RnOff X nb lk (rnAl X.M) 0 (rnN nb lk (rnAl X.M) X 0) := by
      refine ⟨rfl, hst, decide_eq_false (by omega), by simp; omega, .inl ⟨rfl, rfl, fun t t0 t1 => by omega⟩⟩
    have k0 : rnK nb lk X = 0 := fnd_eq (by decide) (by show (!(rnN nb lk (rnAl X.M) X 0).x.on) = true; rw [hoff.on]; rfl) (fun j hj => absurd hj (Nat.not_lt_zero _))
    rw [k0]
    exact ⟨by decide, ⟨hb, rfl, fun k hk => absurd hk (Nat.not_lt_zero _), fun k hk => absurd hk (Nat.not_lt_zero _), fun k hk => by omega⟩, fun e => absurd c e, fun _ => rfl, hoff⟩
  · have hon : RnOn X nb lk (rnAl X.M) 0 (rnN nb lk (rnAl X.M) X 0) := by
      refine ⟨rfl, hst, decide_eq_true (by omega), ⟨Int.le_refl 0, (by decide : (0 : Int) ≤ 3)⟩, ⟨Int.le_refl 0, by show (0 : Int) < rnAl X.M; omega⟩, ⟨hlk.1, Int.le_refl _⟩, rfl, ?_, fun t t0 t1 => absurd (show t < 0 from t1) (by omega), fun q => absurd (show (1 : Int) ≤ 0 from q) (by decide), fun q => absurd (show (2 : Int) ≤ 0 from q) (by decide), fun q => absurd (show (3 : Int) ≤ 0 from q) (by decide), .inl rfl⟩
      show Int.ofNat 0 ≤ 4 * 0 + 0 + 4 * (lk - lk); simp
    have hphi : rnPhi (rnAl X.M) (rnN nb lk (rnAl X.M) X 0) ≤ (300 : Nat) := by
      show 4 * (rnAl X.M - 0) - 0 + 4 * (lk - 1) ≤ _
      simp; omega
    obtain ⟨K, k1, k2, k3, k4⟩ := rn_run hal.2 300 0 hon hphi
    have kK : rnK nb lk X = K := fnd_eq (by omega) (by show (!(rnN nb lk (rnAl X.M) X K).x.on) = true; rw [k4.on]; rfl) (fun j hj => by show (!(rnN nb lk (rnAl X.M) X j).x.on) = false; rw [(k3 j (by omega) hj).on]; rfl)
    rw [kK]
    refine ⟨by omega, ⟨hb, rfl, fun k hk => ?_, fun k hk => (k3 (k + 1) (by omega) hk).on, fun k hk => by rw [hk]; exact k4.on⟩, fun _ => k1, fun e => absurd e c, k4⟩
    have q := k3 k (by omega) hk
    have ql := q.lk
    exact ⟨q.a, q.th, hal.2, by show 1 ≤ (rnN nb lk (rnAl X.M) X k).x.lk ∧ (rnN nb lk (rnAl X.M) X k).x.lk ≤ 1000; omega⟩
end Go.Proofs.YtmlfmmnnbdlabaaDoor
