/-
  Chapter 14: Same.
-/
import Derived.Test.YtmlfmmnnbdlabaaNQaDef
set_option linter.unusedSimpArgs false
set_option linter.unusedVariables false
namespace Go.Proofs.Ytmlfmmnnbdlabaa
open Go.Ev
theorem samr_2 (n n2 l l2 : Nat) (ca cb : Option Nat) (ra rb : Bool) (g h : Nat → Nat → AV) (va vb : Int) (ii : Nat) : roundB EM0 2000 samL ((samU n n2 l l2 ca cb ra rb g h va vb).hp) [] (samT n n2 l l2 ca cb ra rb g h va vb ii) [Hint.b true, Hint.node [], Hint.b false] (samT n n2 l l2 ca cb ra rb g h va vb (ii + 1)) =
 some (Ex.norm, [(0 : Nat) = 0,
 (0 : Nat) = 0,
 (0 : Nat) = 0,
 (0 : Nat) = 0,
 IntKind.i64.wrap (Int.ofNat ii + 1) = Int.ofNat (ii + 1),
 (0 : Nat) = 0,
 n2 = n2,
 cb = cb,
 vb = vb,
 (0 : Nat) = 0,
 n = n,
 ca = ca,
 va = va,
 ra = ra,
 l ≤ l,
 g = g ∧ plainSh tSh = true ∨ ∀ (i : Nat), i < l → rowOb tSh 0 (g i) (g i),
 rb = rb,
 l2 ≤ l2,
 h = h ∧ plainSh tSh = true ∨ ∀ (i : Nat), i < l2 → rowOb tSh 0 (h i) (h i),
 (and2 (avInt (g (0 + ii) 0) == avInt (h (0 + ii) 0)) (and2 (avInt (g (0 + ii) 1) == avInt (h (0 + ii) 1)) (and2 (avInt (g (0 + ii) 2) == avInt (h (0 + ii) 2)) (and2 (avInt (g (0 + ii) 3) == avInt (h (0 + ii) 3)) (and2 (avInt (g (0 + ii) 4) == avInt (h (0 + ii) 4)) (and2 (avInt (g (0 + ii) 5) == avInt (h (0 + ii) 5)) (and2 (avInt (g (0 + ii) 6) == avInt (h (0 + ii) 6)) (and2 (and2 (avInt (g (0 + ii) 7) == avInt (h (0 + ii) 7)) (and2 (avInt (g (0 + ii) 8) == avInt (h (0 + ii) 8)) (and2 (avInt (g (0 + ii) 9) == avInt (h (0 + ii) 9)) true))) true))))))) == false) = false,
 (0 + ii).blt l2 = true,
 (ii.blt n2 && decide (0 ≤ Int.ofNat ii)) = true,
 (0 + ii).blt l = true,
 (ii.blt n && decide (0 ≤ Int.ofNat ii)) = true,
 decide (Int.ofNat ii < Int.ofNat n) = true]) := by kernel_rfl
theorem samr_3 (n n2 l l2 : Nat) (ca cb : Option Nat) (ra rb : Bool) (g h : Nat → Nat → AV) (va vb : Int) (ii : Nat) : roundB EM0 2000 samL ((samU n n2 l l2 ca cb ra rb g h va vb).hp) [] (samT n n2 l l2 ca cb ra rb g h va vb ii) [Hint.b false] (samX n n2 l l2 ca cb ra rb g h va vb ii) =
 some (Ex.exit 0, [(0 : Nat) = 0,
 (0 : Nat) = 0,
 (0 : Nat) = 0,
 (0 : Nat) = 0,
 (0 : Nat) = 0,
 n2 = n2,
 cb = cb,
 vb = vb,
 (0 : Nat) = 0,
 n = n,
 ca = ca,
 va = va,
 ra = ra,
 l ≤ l,
 g = g ∧ plainSh tSh = true ∨ ∀ (i : Nat), i < l → rowOb tSh 0 (g i) (g i),
 rb = rb,
 l2 ≤ l2,
 h = h ∧ plainSh tSh = true ∨ ∀ (i : Nat), i < l2 → rowOb tSh 0 (h i) (h i),
 decide (Int.ofNat ii < Int.ofNat n) = false]) := by kernel_rfl
theorem sami_1 (n n2 l l2 : Nat) (ca cb : Option Nat) (ra rb : Bool) (g h : Nat → Nat → AV) (va vb : Int) : castSt ((samU n n2 l l2 ca cb ra rb g h va vb).hp) [] (samU n n2 l l2 ca cb ra rb g h va vb) (samT n n2 l l2 ca cb ra rb g h va vb 0) =
 some ([(0 : Nat) = 0,
 (0 : Nat) = 0,
 (0 : Nat) = 0,
 (0 : Nat) = 0,
 (0 : Int) = 0,
 (0 : Nat) = 0,
 n2 = n2,
 cb = cb,
 vb = vb,
 (0 : Nat) = 0,
 n = n,
 ca = ca,
 va = va,
 ra = ra,
 l ≤ l,
 g = g ∧ plainSh tSh = true ∨ ∀ (i : Nat), i < l → rowOb tSh 0 (g i) (g i),
 rb = rb,
 l2 ≤ l2,
 h = h ∧ plainSh tSh = true ∨ ∀ (i : Nat), i < l2 → rowOb tSh 0 (h i) (h i)]) := by kernel_rfl
theorem sam_lp (n n2 l l2 : Nat) (ca cb : Option Nat) (ra rb : Bool) (g h : Nat → Nat → AV) (va vb : Int) (hn2 : n = n2) (he : va = vb) (hl : n ≤ l) (hl2 : n ≤ l2) (hm : n ≤ 100000) (hrw : ∀ i, i < n → ∀ j, j < 10 → avInt (g i j) = avInt (h i j)) : samLP n n2 l l2 ca cb ra rb g h va vb := by
  refine loop_rule EM0_ok (I := Nat) (fun i => samT n n2 l l2 ca cb ra rb g h va vb i) (fun i => n - i) (fun i => i ≤ n) ?_ (fun ii hi => ?_)
  ·
    refine ⟨0, [], _, Nat.zero_le _, sami_1 .., (ob_cons rfl (ob_cons rfl (ob_cons rfl (ob_cons rfl (ob_cons rfl (ob_cons rfl (ob_cons rfl (ob_cons rfl (ob_cons rfl (ob_cons rfl (ob_cons rfl (ob_cons rfl (ob_cons rfl (ob_cons rfl (ob_cons (Nat.le_refl _) (ob_cons (.inl ⟨rfl, rfl⟩) (ob_cons rfl (ob_cons (Nat.le_refl _) (ob_cons (.inl ⟨rfl, rfl⟩) ob_nil)))))))))))))))))))⟩
  have hi : ii ≤ n := hi
  have e0 : ii < n → avInt (g (0 + ii) 0) = avInt (h (0 + ii) 0) := fun q => by rw [Nat.zero_add]; exact hrw ii q 0 (by decide)
  have e1 : ii < n → avInt (g (0 + ii) 1) = avInt (h (0 + ii) 1) := fun q => by rw [Nat.zero_add]; exact hrw ii q 1 (by decide)
  have q2 : ii < n → avInt (g (0 + ii) 2) = avInt (h (0 + ii) 2) := fun q => by rw [Nat.zero_add]; exact hrw ii q 2 (by decide)
  have e3 : ii < n → avInt (g (0 + ii) 3) = avInt (h (0 + ii) 3) := fun q => by rw [Nat.zero_add]; exact hrw ii q 3 (by decide)
  have e4 : ii < n → avInt (g (0 + ii) 4) = avInt (h (0 + ii) 4) := fun q => by rw [Nat.zero_add]; exact hrw ii q 4 (by decide)
  have e5 : ii < n → avInt (g (0 + ii) 5) = avInt (h (0 + ii) 5) := fun q => by rw [Nat.zero_add]; exact hrw ii q 5 (by decide)
  have e6 : ii < n → avInt (g (0 + ii) 6) = avInt (h (0 + ii) 6) := fun q => by rw [Nat.zero_add]; exact hrw ii q 6 (by decide)
  have e7 : ii < n → avInt (g (0 + ii) 7) = avInt (h (0 + ii) 7) := fun q => by rw [Nat.zero_add]; exact hrw ii q 7 (by decide)
  have e8 : ii < n → avInt (g (0 + ii) 8) = avInt (h (0 + ii) 8) := fun q => by rw [Nat.zero_add]; exact hrw ii q 8 (by decide)
  have e9 : ii < n → avInt (g (0 + ii) 9) = avInt (h (0 + ii) 9) := fun q => by rw [Nat.zero_add]; exact hrw ii q 9 (by decide)
  cases h1 : (decide (Int.ofNat ii < Int.ofNat n)) with
  | true =>
    have g1 := of_decide_eq_true h1
    try simp only [Int.ofNat_eq_natCast, ge_iff_le, gt_iff_lt, Int.not_lt, Int.not_le] at g1
    refine round_norm (s0 := samU n n2 l l2 ca cb ra rb g h va vb) (T := fun i => samT n n2 l l2 ca cb ra rb g h va vb i) (i := ii) (ii + 1) (samr_2 ..) (ob_cons rfl (ob_cons rfl (ob_cons rfl (ob_cons rfl (ob_cons ?_ (ob_cons rfl (ob_cons rfl (ob_cons rfl (ob_cons rfl (ob_cons rfl (ob_cons rfl (ob_cons rfl (ob_cons rfl (ob_cons rfl (ob_cons (Nat.le_refl _) (ob_cons (.inl ⟨rfl, rfl⟩) (ob_cons rfl (ob_cons (Nat.le_refl _) (ob_cons (.inl ⟨rfl, rfl⟩) (ob_cons ?_ (ob_cons ?_ (ob_cons ?_ (ob_cons ?_ (ob_cons ?_ (ob_cons h1 ob_nil))))))))))))))))))))))))) (by show ii + 1 ≤ n; omega) (by show n - (ii + 1) < n - ii; omega)
    · exact wrap_nat64 _ (by simp; omega) (by simp; omega)
    · (have k0 := e0 (by omega); have k1 := e1 (by omega); have k2 := q2 (by omega); have k3 := e3 (by omega); have k4 := e4 (by omega); have k5 := e5 (by omega); have k6 := e6 (by omega); have k7 := e7 (by omega); have k8 := e8 (by omega); have k9 := e9 (by omega); simp only [k0, k1, k2, k3, k4, k5, k6, k7, k8, k9]; simp [and2_eq]; done)
    · (apply Nat.ble_eq_true_of_le; omega)
    · (simp [Nat.blt_eq]; omega)
    · (apply Nat.ble_eq_true_of_le; omega)
    · (simp [Nat.blt_eq]; omega)
  | false =>
    have g1 := of_decide_eq_false h1
    try simp only [Int.ofNat_eq_natCast, ge_iff_le, gt_iff_lt, Int.not_lt, Int.not_le] at g1
    obtain rfl : n = ii := by omega
    refine round_exit (s0 := samU n n2 l l2 ca cb ra rb g h va vb) (T := fun i => samT n n2 l l2 ca cb ra rb g h va vb i) (i := n) (samr_3 ..) (by simp) (ob_cons rfl (ob_cons rfl (ob_cons rfl (ob_cons rfl (ob_cons rfl (ob_cons rfl (ob_cons rfl (ob_cons rfl (ob_cons rfl (ob_cons rfl (ob_cons rfl (ob_cons rfl (ob_cons rfl (ob_cons (Nat.le_refl _) (ob_cons (.inl ⟨rfl, rfl⟩) (ob_cons rfl (ob_cons (Nat.le_refl _) (ob_cons (.inl ⟨rfl, rfl⟩) (ob_cons h1 ob_nil)))))))))))))))))))
theorem sms_1 (n n2 l l2 : Nat) (ca cb : Option Nat) (ra rb : Bool) (g h : Nat → Nat → AV) (va vb : Int) : callB EM0 2000 39 [AV.agg [AV.ss 10 1 0 n ca, AV.sym IntKind.u64 va], AV.agg [AV.ss 10 2 0 n2 cb, AV.sym IntKind.u64 vb]] (smsH n n2 l l2 ca cb ra rb g h va vb) (smsR n n2 l l2 ca cb ra rb g h va vb) [] [Hint.b false, Hint.b false, Hint.lp [2, 3, 5] (Ex.exit 0) (samX n n2 l l2 ca cb ra rb g h va vb n).tmps (samX n n2 l l2 ca cb ra rb g h va vb n).hp.heap 5 [], Hint.b true] =
 some ([ra = ra,
 l ≤ l,
 g = g ∧ plainSh tSh = true ∨ ∀ (i : Nat), i < l → rowOb tSh 0 (g i) (g i),
 rb = rb,
 l2 ≤ l2,
 h = h ∧ plainSh tSh = true ∨ ∀ (i : Nat), i < l2 → rowOb tSh 0 (h i) (h i),
 samLP n n2 l l2 ca cb ra rb g h va vb,
 (va != vb) = false,
 (Int.ofNat n != Int.ofNat n2) = false]) := by kernel_rfl
theorem sms_loc (n n2 l l2 : Nat) (ca cb : Option Nat) (ra rb : Bool) (g h : Nat → Nat → AV) (va vb : Int) : LocOk Try.prog 39 [.agg [.ss 10 1 0 n ca, .sym .u64 va], .agg [.ss 10 2 0 n2 cb, .sym .u64 vb]] (smsH n n2 l l2 ca cb ra rb g h va vb) (smsR n n2 l l2 ca cb ra rb g h va vb) := by
  refine loc_of_call EM0_ok (fun hp => ?_)
  have hn2 : n = n2 := hp _ (List.mem_cons_self ..)
  have he : va = vb := hp _ (List.mem_cons_of_mem _ (List.mem_cons_self ..))
  have hl : n ≤ l := hp _ (List.mem_cons_of_mem _ (List.mem_cons_of_mem _ (List.mem_cons_self ..)))
  have hl2 : n ≤ l2 := hp _ (List.mem_cons_of_mem _ (List.mem_cons_of_mem _ (List.mem_cons_of_mem _ (List.mem_cons_self ..))))
  have hm : n ≤ 100000 := hp _ (List.mem_cons_of_mem _ (List.mem_cons_of_mem _ (List.mem_cons_of_mem _ (List.mem_cons_of_mem _ (List.mem_cons_self ..)))))
  have hrw : ∀ i, i < n → ∀ j, j < 10 → avInt (g i j) = avInt (h i j) := hp _ (List.mem_cons_of_mem _ (List.mem_cons_of_mem _ (List.mem_cons_of_mem _ (List.mem_cons_of_mem _ (List.mem_cons_of_mem _ (List.mem_cons_self ..))))))
  clear hp
  have hlp := sam_lp n n2 l l2 ca cb ra rb g h va vb hn2 he hl hl2 hm hrw
  subst hn2
  subst he
  refine ⟨2000, _, _, _, sms_1 .., (ob_cons rfl (ob_cons (Nat.le_refl _) (ob_cons (.inl ⟨rfl, rfl⟩) (ob_cons rfl (ob_cons (Nat.le_refl _) (ob_cons (.inl ⟨rfl, rfl⟩) (ob_cons ?_ (ob_cons ?_ (ob_cons ?_ ob_nil)))))))))⟩
  · trivial
  · (simp; done)
  · (simp; done)
noncomputable def smsSpec : LSpec := fun la lh => match la, lh with
  | [.agg [.ss z1 z2 z3 n ca, .sym .u64 va], .agg [.ss z4 z5 z6 n2 cb, .sym .u64 vb]], [(z7, .arr z8 z9 ra l g), (z10, .arr z11 z12 rb l2 h)] =>
    match Nat.beq z1 10 && (Nat.beq z2 1 && (Nat.beq z3 0 && (Nat.beq z4 10 && (Nat.beq z5 2 && (Nat.beq z6 0 && (Nat.beq z7 1 && (Nat.beq z8 10 && (shBeq z9 tSh && (Nat.beq z10 2 && (Nat.beq z11 10 && (shBeq z12 tSh))))))))))) with
    | true => some (smsR n n2 l l2 ca cb ra rb g h va vb)
    | false => none
  | _, _ => none
theorem smsSpec_ok (la : List AV) (lh : List (Nat × AO)) (R : LR) (h : smsSpec la lh = some R) : LocOk Try.prog 39 la lh R := by
  unfold smsSpec at h
  split at h
  · rename_i z1 z2 z3 n ca va z4 z5 z6 n2 cb vb z7 z8 z9 ra l g z10 z11 z12 rb l2 h
    split at h
    · rename_i hb
      simp only [Bool.and_eq_true] at hb
      obtain ⟨e1, e2, e3, e4, e5, e6, e7, e8, e9, e10, e11, e12⟩ := hb
      have e1 := Nat.eq_of_beq_eq_true e1; subst e1
      have e2 := Nat.eq_of_beq_eq_true e2; subst e2
      have e3 := Nat.eq_of_beq_eq_true e3; subst e3
      have e4 := Nat.eq_of_beq_eq_true e4; subst e4
      have e5 := Nat.eq_of_beq_eq_true e5; subst e5
      have e6 := Nat.eq_of_beq_eq_true e6; subst e6
      have e7 := Nat.eq_of_beq_eq_true e7; subst e7
      have e8 := Nat.eq_of_beq_eq_true e8; subst e8
      have e9 := shBeq_eq e9; subst e9
      have e10 := Nat.eq_of_beq_eq_true e10; subst e10
      have e11 := Nat.eq_of_beq_eq_true e11; subst e11
      have e12 := shBeq_eq e12; subst e12
      cases h
      exact sms_loc n n2 l l2 ca cb ra rb g h va vb
    · cases h
  · cases h

end Go.Proofs.Ytmlfmmnnbdlabaa
