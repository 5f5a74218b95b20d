/-
  Histories: Under, Same.
-/
import Derived.Test.YtnecknppajbcdaaHsDef
set_option linter.unusedSimpArgs false
set_option linter.unusedVariables false
namespace Go.Proofs.Ytnecknppajbcdaa
open Go.Ev
theorem und_1 (t : Int) (n l : Nat) (f : Nat → Nat → AV) (U : List Int → Option Int) (last : Int) : callB EH1 2000 33 [AV.ptr 1 0 0, AV.sym IntKind.i64 t] (undH t n l f U last) (undR t n l f U last) [] [Hint.b true] =
 some ([-1 = undI U t,
 (0 : Nat) = 0,
 n = n,
 (none : Option Nat) = none,
 last = last,
 false = false,
 l ≤ l,
 f = f ∧ plainSh cSh = true ∨ ∀ (i : Nat), i < l → rowOb cSh 0 (f i) (f i),
 ∀ (k : List Int), U k = U k,
 (!(U [t]).isSome) = true]) := by kernel_rfl
theorem und_2 (t : Int) (n l : Nat) (f : Nat → Nat → AV) (U : List Int → Option Int) (last : Int) : callB EH1 2000 33 [AV.ptr 1 0 0, AV.sym IntKind.i64 t] (undH t n l f U last) (undR t n l f U last) [] [Hint.b false] =
 some ([mget U [t] = undI U t,
 (0 : Nat) = 0,
 n = n,
 (none : Option Nat) = none,
 last = last,
 false = false,
 l ≤ l,
 f = f ∧ plainSh cSh = true ∨ ∀ (i : Nat), i < l → rowOb cSh 0 (f i) (f i),
 ∀ (k : List Int), U k = U k,
 (!(U [t]).isSome) = false]) := by kernel_rfl
theorem und_loc (t : Int) (n l : Nat) (f : Nat → Nat → AV) (U : List Int → Option Int) (last : Int) : LocOk Try.prog 33 [.ptr 1 0 0, .sym .i64 t] (undH t n l f U last) (undR t n l f U last) := by
  refine loc_of_call EH1_ok (fun hp => ?_)
  clear hp
  cases h1 : (!(U [t]).isSome) with
  | true =>
    refine ⟨2000, _, _, _, und_1 .., (ob_cons ?_ (ob_cons rfl (ob_cons rfl (ob_cons rfl (ob_cons rfl (ob_cons rfl (ob_cons (Nat.le_refl _) (ob_cons (.inl ⟨rfl, rfl⟩) (ob_cons (fun _ => rfl) (ob_cons h1 ob_nil))))))))))⟩
    ·
      first | rfl | (unfold undI; cases q : U [t] <;> simp_all [mget]; done)
  | false =>
    refine ⟨2000, _, _, _, und_2 .., (ob_cons ?_ (ob_cons rfl (ob_cons rfl (ob_cons rfl (ob_cons rfl (ob_cons rfl (ob_cons (Nat.le_refl _) (ob_cons (.inl ⟨rfl, rfl⟩) (ob_cons (fun _ => rfl) (ob_cons h1 ob_nil))))))))))⟩
    ·
      first | rfl | (unfold undI; cases q : U [t] <;> simp_all [mget]; done)
noncomputable def undSpec : LSpec := fun la lh => match la, lh with
  | [.ptr z1 z2 z3, .sym .i64 t], [(z4, .cells z5 [.ss z6 z7 z8 n none, .map z9, .sym .i64 last]), (z10, .arr z11 z12 false l f), (z13, .map z14 U)] =>
    match Nat.beq z1 1 && (Nat.beq z2 0 && (Nat.beq z3 0 && (Nat.beq z4 1 && (Nat.beq z5 3 && (Nat.beq z6 9 && (Nat.beq z7 2 && (Nat.beq z8 0 && (Nat.beq z9 3 && (Nat.beq z10 2 && (Nat.beq z11 9 && (shBeq z12 cSh && (Nat.beq z13 3 && (Nat.beq z14 76))))))))))))) with
    | true => some (undR t n l f U last)
    | false => none
  | _, _ => none
theorem undSpec_ok (la : List AV) (lh : List (Nat × AO)) (R : LR) (h : undSpec la lh = some R) : LocOk Try.prog 33 la lh R := by
  unfold undSpec at h
  split at h
  · rename_i z1 z2 z3 t z4 z5 z6 z7 z8 n z9 last z10 z11 z12 l f z13 z14 U
    split at h
    · rename_i hb
      simp only [Bool.and_eq_true] at hb
      obtain ⟨e1, e2, e3, e4, e5, e6, e7, e8, e9, e10, e11, e12, e13, e14⟩ := hb
      have e1 := Nat.eq_of_beq_eq_true e1; subst e1
      have e2 := Nat.eq_of_beq_eq_true e2; subst e2
      have e3 := Nat.eq_of_beq_eq_true e3; subst e3
      have e4 := Nat.eq_of_beq_eq_true e4; subst e4
      have e5 := Nat.eq_of_beq_eq_true e5; subst e5
      have e6 := Nat.eq_of_beq_eq_true e6; subst e6
      have e7 := Nat.eq_of_beq_eq_true e7; subst e7
      have e8 := Nat.eq_of_beq_eq_true e8; subst e8
      have e9 := Nat.eq_of_beq_eq_true e9; subst e9
      have e10 := Nat.eq_of_beq_eq_true e10; subst e10
      have e11 := Nat.eq_of_beq_eq_true e11; subst e11
      have e12 := shBeq_eq e12; subst e12
      have e13 := Nat.eq_of_beq_eq_true e13; subst e13
      have e14 := Nat.eq_of_beq_eq_true e14; subst e14
      cases h
      exact und_loc t n l f U last
    · cases h
  · cases h

theorem rundf_1 (t : Int) (n l : Nat) (g : Nat → Nat → AV) (last : Int) (ii : Nat) : roundB EH1 2000 rundL ((rundU t n l g last).hp) [] (rundT t n l g last ii) [Hint.b true, Hint.b true, Hint.b true] (rundQ t n l g last ii) =
 some (Ex.ret, [Int.ofNat ii = Int.ofNat ii,
 (0 : Nat) = 0,
 n = n,
 (none : Option Nat) = none,
 last = last,
 false = false,
 l ≤ l,
 g = g ∧ plainSh dSh = true ∨ ∀ (i : Nat), i < l → rowOb dSh 0 (g i) (g i),
 decide (avInt (g (0 + ii) 8) < 0) = true,
 (0 + ii).blt l = true,
 (ii.blt n && decide (0 ≤ Int.ofNat ii)) = true,
 (avInt (g (0 + ii) 0) == t) = true,
 (0 + ii).blt l = true,
 (ii.blt n && decide (0 ≤ Int.ofNat ii)) = true,
 decide (Int.ofNat ii < Int.ofNat n) = true]) := by kernel_rfl
theorem rundf_2 (t : Int) (n l : Nat) (g : Nat → Nat → AV) (last : Int) (ii : Nat) : roundB EH1 2000 rundL ((rundU t n l g last).hp) [] (rundT t n l g last ii) [Hint.b true, Hint.b true, Hint.b false] (rundT t n l g last (ii + 1)) =
 some (Ex.norm, [(0 : Nat) = 0,
 (0 : Nat) = 0,
 t = t,
 IntKind.i64.wrap (Int.ofNat ii + 1) = Int.ofNat (ii + 1),
 (0 : Nat) = 0,
 n = n,
 (none : Option Nat) = none,
 last = last,
 false = false,
 l ≤ l,
 g = g ∧ plainSh dSh = true ∨ ∀ (i : Nat), i < l → rowOb dSh 0 (g i) (g i),
 decide (avInt (g (0 + ii) 8) < 0) = false,
 (0 + ii).blt l = true,
 (ii.blt n && decide (0 ≤ Int.ofNat ii)) = true,
 (avInt (g (0 + ii) 0) == t) = true,
 (0 + ii).blt l = true,
 (ii.blt n && decide (0 ≤ Int.ofNat ii)) = true,
 decide (Int.ofNat ii < Int.ofNat n) = true]) := by kernel_rfl
theorem rundf_3 (t : Int) (n l : Nat) (g : Nat → Nat → AV) (last : Int) (ii : Nat) : roundB EH1 2000 rundL ((rundU t n l g last).hp) [] (rundT t n l g last ii) [Hint.b true, Hint.b false] (rundT t n l g last (ii + 1)) =
 some (Ex.norm, [(0 : Nat) = 0,
 (0 : Nat) = 0,
 t = t,
 IntKind.i64.wrap (Int.ofNat ii + 1) = Int.ofNat (ii + 1),
 (0 : Nat) = 0,
 n = n,
 (none : Option Nat) = none,
 last = last,
 false = false,
 l ≤ l,
 g = g ∧ plainSh dSh = true ∨ ∀ (i : Nat), i < l → rowOb dSh 0 (g i) (g i),
 (avInt (g (0 + ii) 0) == t) = false,
 (0 + ii).blt l = true,
 (ii.blt n && decide (0 ≤ Int.ofNat ii)) = true,
 decide (Int.ofNat ii < Int.ofNat n) = true]) := by kernel_rfl
theorem rundn_2 (t : Int) (n l : Nat) (g : Nat → Nat → AV) (last : Int) (ii : Nat) : roundB EH1 2000 rundL ((rundU t n l g last).hp) [] (rundT t n l g last ii) [Hint.b true, Hint.b true, Hint.b false] (rundT t n l g last (ii + 1)) =
 some (Ex.norm, [(0 : Nat) = 0,
 (0 : Nat) = 0,
 t = t,
 IntKind.i64.wrap (Int.ofNat ii + 1) = Int.ofNat (ii + 1),
 (0 : Nat) = 0,
 n = n,
 (none : Option Nat) = none,
 last = last,
 false = false,
 l ≤ l,
 g = g ∧ plainSh dSh = true ∨ ∀ (i : Nat), i < l → rowOb dSh 0 (g i) (g i),
 decide (avInt (g (0 + ii) 8) < 0) = false,
 (0 + ii).blt l = true,
 (ii.blt n && decide (0 ≤ Int.ofNat ii)) = true,
 (avInt (g (0 + ii) 0) == t) = true,
 (0 + ii).blt l = true,
 (ii.blt n && decide (0 ≤ Int.ofNat ii)) = true,
 decide (Int.ofNat ii < Int.ofNat n) = true]) := by kernel_rfl
theorem rundn_3 (t : Int) (n l : Nat) (g : Nat → Nat → AV) (last : Int) (ii : Nat) : roundB EH1 2000 rundL ((rundU t n l g last).hp) [] (rundT t n l g last ii) [Hint.b true, Hint.b false] (rundT t n l g last (ii + 1)) =
 some (Ex.norm, [(0 : Nat) = 0,
 (0 : Nat) = 0,
 t = t,
 IntKind.i64.wrap (Int.ofNat ii + 1) = Int.ofNat (ii + 1),
 (0 : Nat) = 0,
 n = n,
 (none : Option Nat) = none,
 last = last,
 false = false,
 l ≤ l,
 g = g ∧ plainSh dSh = true ∨ ∀ (i : Nat), i < l → rowOb dSh 0 (g i) (g i),
 (avInt (g (0 + ii) 0) == t) = false,
 (0 + ii).blt l = true,
 (ii.blt n && decide (0 ≤ Int.ofNat ii)) = true,
 decide (Int.ofNat ii < Int.ofNat n) = true]) := by kernel_rfl
theorem rundn_4 (t : Int) (n l : Nat) (g : Nat → Nat → AV) (last : Int) (ii : Nat) : roundB EH1 2000 rundL ((rundU t n l g last).hp) [] (rundT t n l g last ii) [Hint.b false] (rundS t n l g last) =
 some (Ex.exit 0, [(0 : Nat) = 0,
 n = n,
 (none : Option Nat) = none,
 last = last,
 false = false,
 l ≤ l,
 g = g ∧ plainSh dSh = true ∨ ∀ (i : Nat), i < l → rowOb dSh 0 (g i) (g i),
 decide (Int.ofNat ii < Int.ofNat n) = false]) := by kernel_rfl
theorem rundi_1 (t : Int) (n l : Nat) (g : Nat → Nat → AV) (last : Int) : castSt ((rundU t n l g last).hp) [] (rundU t n l g last) (rundT t n l g last 0) =
 some ([(0 : Nat) = 0,
 (0 : Nat) = 0,
 t = t,
 (0 : Int) = 0,
 (0 : Nat) = 0,
 n = n,
 (none : Option Nat) = none,
 last = last,
 false = false,
 l ≤ l,
 g = g ∧ plainSh dSh = true ∨ ∀ (i : Nat), i < l → rowOb dSh 0 (g i) (g i)]) := by kernel_rfl
theorem rundcf_1 (t : Int) (n l : Nat) (g : Nat → Nat → AV) (last : Int) (k : Nat) : callB EH1 2000 34 [AV.ptr 1 0 0, AV.sym IntKind.i64 t] (rundH t n l g last) (rundR t n l g last) [] [Hint.lp [0, 1, 5] Ex.ret (rundQ t n l g last k).tmps (rundH t n l g last) 3 []] =
 some ([Int.ofNat k = srch (rundP t n l g last) n (fun i => Int.ofNat i) (-1),
 (0 : Nat) = 0,
 n = n,
 (none : Option Nat) = none,
 last = last,
 false = false,
 l ≤ l,
 g = g ∧ plainSh dSh = true ∨ ∀ (i : Nat), i < l → rowOb dSh 0 (g i) (g i),
 rundLF t n l g last k]) := by kernel_rfl
theorem rundcn_1 (t : Int) (n l : Nat) (g : Nat → Nat → AV) (last : Int) : callB EH1 2000 34 [AV.ptr 1 0 0, AV.sym IntKind.i64 t] (rundH t n l g last) (rundR t n l g last) [] [Hint.lp [0, 1, 5] (Ex.exit 0) (rundS t n l g last).tmps (rundH t n l g last) 3 []] =
 some ([-1 = srch (rundP t n l g last) n (fun i => Int.ofNat i) (-1),
 (0 : Nat) = 0,
 n = n,
 (none : Option Nat) = none,
 last = last,
 false = false,
 l ≤ l,
 g = g ∧ plainSh dSh = true ∨ ∀ (i : Nat), i < l → rowOb dSh 0 (g i) (g i),
 rundLN t n l g last]) := by kernel_rfl
theorem rund_lpf (t : Int) (n l : Nat) (g : Nat → Nat → AV) (last : Int) (hl : n ≤ l) (hm : n ≤ 1000000) (k : Nat) (hk : k < n) (qk2 : rundP t n l g last k = true) (qk3 : ∀ i, i < k → rundP t n l g last i = false) : rundLF t n l g last k := by
  refine loop_rule EH1_ok (I := Nat) (fun i => rundT t n l g last i) (fun i => k - i) (fun i => i ≤ k) ?_ (fun ii hi => ?_)
  ·
    refine ⟨0, [], _, Nat.zero_le _, rundi_1 .., (ob_cons rfl (ob_cons rfl (ob_cons rfl (ob_cons rfl (ob_cons rfl (ob_cons rfl (ob_cons rfl (ob_cons rfl (ob_cons rfl (ob_cons (Nat.le_refl _) (ob_cons (.inl ⟨rfl, rfl⟩) ob_nil)))))))))))⟩
  cases h1 : (avInt (g (0 + ii) 0) == t) with
  | true =>
    cases h2 : (decide (avInt (g (0 + ii) 8) < 0)) with
    | true =>
      have g2 := of_decide_eq_true h2
      try simp only [Int.ofNat_eq_natCast, ge_iff_le, gt_iff_lt, Int.not_lt, Int.not_le] at g2
      have hpp : rundP t n l g last ii = true := by (unfold rundP; (try rw [h1]); (try rw [h2]); first | done | rfl | (simp; done) | simp_all)
      have hke : ii = k := by (rcases Nat.lt_or_ge ii k with q | q <;> first | (rw [qk3 ii q] at hpp; cases hpp) | omega)
      subst hke
      refine round_exit (s0 := rundU t n l g last) (rundf_1 ..) (by simp) (ob_cons rfl (ob_cons rfl (ob_cons rfl (ob_cons rfl (ob_cons rfl (ob_cons rfl (ob_cons (Nat.le_refl _) (ob_cons (.inl ⟨rfl, rfl⟩) (ob_cons h2 (ob_cons ?_ (ob_cons ?_ (ob_cons h1 (ob_cons ?_ (ob_cons ?_ (ob_cons ?_ ob_nil)))))))))))))))
      ·
        first | (apply Nat.ble_eq_true_of_le; omega) | (simp [Nat.blt_eq]; omega) | (simp; omega)
      ·
        first | (apply Nat.ble_eq_true_of_le; omega) | (simp [Nat.blt_eq]; omega) | (simp; omega)
      ·
        first | (apply Nat.ble_eq_true_of_le; omega) | (simp [Nat.blt_eq]; omega) | (simp; omega)
      ·
        first | (apply Nat.ble_eq_true_of_le; omega) | (simp [Nat.blt_eq]; omega) | (simp; omega)
      ·
        first | (apply Nat.ble_eq_true_of_le; omega) | (simp [Nat.blt_eq]; omega) | (simp; omega)
    | false =>
      have g2 := of_decide_eq_false h2
      try simp only [Int.ofNat_eq_natCast, ge_iff_le, gt_iff_lt, Int.not_lt, Int.not_le] at g2
      have hpp : rundP t n l g last ii = false := by (unfold rundP; (try rw [h1]); (try rw [h2]); first | done | rfl | (simp; done) | simp_all)
      have hne : ii ≠ k := fun e => by (subst e; rw [qk2] at hpp; cases hpp)
      refine round_norm (s0 := rundU t n l g last) (ii + 1) (rundf_2 ..) (ob_cons rfl (ob_cons rfl (ob_cons rfl (ob_cons ?_ (ob_cons rfl (ob_cons rfl (ob_cons rfl (ob_cons rfl (ob_cons rfl (ob_cons (Nat.le_refl _) (ob_cons (.inl ⟨rfl, rfl⟩) (ob_cons h2 (ob_cons ?_ (ob_cons ?_ (ob_cons h1 (ob_cons ?_ (ob_cons ?_ (ob_cons ?_ ob_nil)))))))))))))))))) (by show ii + 1 ≤ k; omega) (by show k - (ii + 1) < k - ii; omega)
      ·
        first | exact wrap_nat64 _ (by simp; omega) (by simp; omega) | (simp; omega)
      ·
        first | (apply Nat.ble_eq_true_of_le; omega) | (simp [Nat.blt_eq]; omega) | (simp; omega)
      ·
        first | (apply Nat.ble_eq_true_of_le; omega) | (simp [Nat.blt_eq]; omega) | (simp; omega)
      ·
        first | (apply Nat.ble_eq_true_of_le; omega) | (simp [Nat.blt_eq]; omega) | (simp; omega)
      ·
        first | (apply Nat.ble_eq_true_of_le; omega) | (simp [Nat.blt_eq]; omega) | (simp; omega)
      ·
        first | (apply Nat.ble_eq_true_of_le; omega) | (simp [Nat.blt_eq]; omega) | (simp; omega)
  | false =>
    have hpp : rundP t n l g last ii = false := by (unfold rundP; (try rw [h1]); first | done | rfl | (simp; done) | simp_all)
    have hne : ii ≠ k := fun e => by (subst e; rw [qk2] at hpp; cases hpp)
    refine round_norm (s0 := rundU t n l g last) (ii + 1) (rundf_3 ..) (ob_cons rfl (ob_cons rfl (ob_cons rfl (ob_cons ?_ (ob_cons rfl (ob_cons rfl (ob_cons rfl (ob_cons rfl (ob_cons rfl (ob_cons (Nat.le_refl _) (ob_cons (.inl ⟨rfl, rfl⟩) (ob_cons h1 (ob_cons ?_ (ob_cons ?_ (ob_cons ?_ ob_nil))))))))))))))) (by show ii + 1 ≤ k; omega) (by show k - (ii + 1) < k - ii; omega)
    ·
      first | exact wrap_nat64 _ (by simp; omega) (by simp; omega) | (simp; omega)
    ·
      first | (apply Nat.ble_eq_true_of_le; omega) | (simp [Nat.blt_eq]; omega) | (simp; omega)
    ·
      first | (apply Nat.ble_eq_true_of_le; omega) | (simp [Nat.blt_eq]; omega) | (simp; omega)
    ·
      first | (apply Nat.ble_eq_true_of_le; omega) | (simp [Nat.blt_eq]; omega) | (simp; omega)
theorem rund_lpn (t : Int) (n l : Nat) (g : Nat → Nat → AV) (last : Int) (hl : n ≤ l) (hm : n ≤ 1000000) (qno : ∀ i, i < n → rundP t n l g last i = false) : rundLN t n l g last := by
  refine loop_rule EH1_ok (I := Nat) (fun i => rundT t n l g last i) (fun i => n - i) (fun i => i ≤ n) ?_ (fun ii hi => ?_)
  ·
    refine ⟨0, [], _, Nat.zero_le _, rundi_1 .., (ob_cons rfl (ob_cons rfl (ob_cons rfl (ob_cons rfl (ob_cons rfl (ob_cons rfl (ob_cons rfl (ob_cons rfl (ob_cons rfl (ob_cons (Nat.le_refl _) (ob_cons (.inl ⟨rfl, rfl⟩) ob_nil)))))))))))⟩
  cases h1 : (decide (Int.ofNat ii < Int.ofNat n)) with
  | true =>
    have g1 := of_decide_eq_true h1
    try simp only [Int.ofNat_eq_natCast, ge_iff_le, gt_iff_lt, Int.not_lt, Int.not_le] at g1
    cases h2 : (avInt (g (0 + ii) 0) == t) with
    | true =>
      refine round_norm (s0 := rundU t n l g last) (ii + 1) (rundn_2 ..) (ob_cons rfl (ob_cons rfl (ob_cons rfl (ob_cons ?_ (ob_cons rfl (ob_cons rfl (ob_cons rfl (ob_cons rfl (ob_cons rfl (ob_cons (Nat.le_refl _) (ob_cons (.inl ⟨rfl, rfl⟩) (ob_cons ?_ (ob_cons ?_ (ob_cons ?_ (ob_cons h2 (ob_cons ?_ (ob_cons ?_ (ob_cons h1 ob_nil)))))))))))))))))) (by show ii + 1 ≤ n; omega) (by show n - (ii + 1) < n - ii; omega)
      ·
        first | exact wrap_nat64 _ (by simp; omega) (by simp; omega) | (simp; omega) | (have q := qno ii (by omega); unfold rundP at q; (try simp only [h1, h2] at q); (try simp [and2] at q); (try simp); first | exact q | omega | (simp_all; done))
      ·
        first | (apply Nat.ble_eq_true_of_le; omega) | (simp [Nat.blt_eq]; omega) | (simp; omega) | (have q := qno ii (by omega); unfold rundP at q; (try simp only [h1, h2] at q); (try simp [and2] at q); (try simp); first | exact q | omega | (simp_all; done))
      ·
        first | (apply Nat.ble_eq_true_of_le; omega) | (simp [Nat.blt_eq]; omega) | (simp; omega) | (have q := qno ii (by omega); unfold rundP at q; (try simp only [h1, h2] at q); (try simp [and2] at q); (try simp); first | exact q | omega | (simp_all; done))
      ·
        first | (apply Nat.ble_eq_true_of_le; omega) | (simp [Nat.blt_eq]; omega) | (simp; omega) | (have q := qno ii (by omega); unfold rundP at q; (try simp only [h1, h2] at q); (try simp [and2] at q); (try simp); first | exact q | omega | (simp_all; done))
      ·
        first | (apply Nat.ble_eq_true_of_le; omega) | (simp [Nat.blt_eq]; omega) | (simp; omega) | (have q := qno ii (by omega); unfold rundP at q; (try simp only [h1, h2] at q); (try simp [and2] at q); (try simp); first | exact q | omega | (simp_all; done))
      ·
        first | (apply Nat.ble_eq_true_of_le; omega) | (simp [Nat.blt_eq]; omega) | (simp; omega) | (have q := qno ii (by omega); unfold rundP at q; (try simp only [h1, h2] at q); (try simp [and2] at q); (try simp); first | exact q | omega | (simp_all; done))
    | false =>
      refine round_norm (s0 := rundU t n l g last) (ii + 1) (rundn_3 ..) (ob_cons rfl (ob_cons rfl (ob_cons rfl (ob_cons ?_ (ob_cons rfl (ob_cons rfl (ob_cons rfl (ob_cons rfl (ob_cons rfl (ob_cons (Nat.le_refl _) (ob_cons (.inl ⟨rfl, rfl⟩) (ob_cons h2 (ob_cons ?_ (ob_cons ?_ (ob_cons h1 ob_nil))))))))))))))) (by show ii + 1 ≤ n; omega) (by show n - (ii + 1) < n - ii; omega)
      ·
        first | exact wrap_nat64 _ (by simp; omega) (by simp; omega) | (simp; omega) | (have q := qno ii (by omega); unfold rundP at q; (try simp only [h1, h2] at q); (try simp [and2] at q); (try simp); first | exact q | omega | (simp_all; done))
      ·
        first | (apply Nat.ble_eq_true_of_le; omega) | (simp [Nat.blt_eq]; omega) | (simp; omega) | (have q := qno ii (by omega); unfold rundP at q; (try simp only [h1, h2] at q); (try simp [and2] at q); (try simp); first | exact q | omega | (simp_all; done))
      ·
        first | (apply Nat.ble_eq_true_of_le; omega) | (simp [Nat.blt_eq]; omega) | (simp; omega) | (have q := qno ii (by omega); unfold rundP at q; (try simp only [h1, h2] at q); (try simp [and2] at q); (try simp); first | exact q | omega | (simp_all; done))
  | false =>
    have g1 := of_decide_eq_false h1
    try simp only [Int.ofNat_eq_natCast, ge_iff_le, gt_iff_lt, Int.not_lt, Int.not_le] at g1
    refine round_exit (s0 := rundU t n l g last) (rundn_4 ..) (by simp) (ob_cons rfl (ob_cons rfl (ob_cons rfl (ob_cons rfl (ob_cons rfl (ob_cons (Nat.le_refl _) (ob_cons (.inl ⟨rfl, rfl⟩) (ob_cons h1 ob_nil))))))))
theorem rund_loc (t : Int) (n l : Nat) (g : Nat → Nat → AV) (last : Int) : LocOk Try.prog 34 [.ptr 1 0 0, .sym .i64 t] (rundH t n l g last) (rundR t n l g last) := by
  refine loc_of_call EH1_ok (fun hp => ?_)
  have hl : n ≤ l := hp _ (List.mem_cons_self ..)
  have hm : n ≤ 1000000 := hp _ (List.mem_cons_of_mem _ (List.mem_cons_self ..))
  clear hp
  rcases first_true (rundP t n l g last) (n) with qno | ⟨k, hk, qk2, qk3⟩
  · have hln := rund_lpn t n l g last hl hm qno
    refine ⟨2000, _, _, _, rundcn_1 .., (ob_cons ?_ (ob_cons rfl (ob_cons rfl (ob_cons rfl (ob_cons rfl (ob_cons rfl (ob_cons (Nat.le_refl _) (ob_cons (.inl ⟨rfl, rfl⟩) (ob_cons ?_ ob_nil)))))))))⟩
    ·
      first | rfl | exact hln | (simp only [srch_no qno, srchB_no qno]; done) | (rw [srch_no qno]; done)
    ·
      first | trivial | exact hln | (simp only [srch_no qno, srchB_no qno]; done) | (rw [srch_no qno]; done)
  · have hlf := rund_lpf t n l g last hl hm k hk qk2 qk3
    refine ⟨2000, _, _, _, rundcf_1 t n l g last k, (ob_cons ?_ (ob_cons rfl (ob_cons rfl (ob_cons rfl (ob_cons rfl (ob_cons rfl (ob_cons (Nat.le_refl _) (ob_cons (.inl ⟨rfl, rfl⟩) (ob_cons ?_ ob_nil)))))))))⟩
    ·
      first | rfl | exact hlf | (simp only [srch_at hk qk2 qk3, srchB_at hk qk2 qk3]; done) | (rw [srch_at hk qk2 qk3]; done)
    ·
      first | trivial | exact hlf | (simp only [srch_at hk qk2 qk3, srchB_at hk qk2 qk3]; done) | (rw [srch_at hk qk2 qk3]; done)
noncomputable def rundSpec : LSpec := fun la lh => match la, lh with
  | [.ptr z1 z2 z3, .sym .i64 t], [(z4, .cells z5 [.ss z6 z7 z8 n none, .sym .i64 last]), (z9, .arr z10 z11 false l g)] =>
    match Nat.beq z1 1 && (Nat.beq z2 0 && (Nat.beq z3 0 && (Nat.beq z4 1 && (Nat.beq z5 2 && (Nat.beq z6 9 && (Nat.beq z7 2 && (Nat.beq z8 0 && (Nat.beq z9 2 && (Nat.beq z10 9 && (shBeq z11 dSh)))))))))) with
    | true => some (rundR t n l g last)
    | false => none
  | _, _ => none
theorem rundSpec_ok (la : List AV) (lh : List (Nat × AO)) (R : LR) (h : rundSpec la lh = some R) : LocOk Try.prog 34 la lh R := by
  unfold rundSpec at h
  split at h
  · rename_i z1 z2 z3 t z4 z5 z6 z7 z8 n last z9 z10 z11 l g
    split at h
    · rename_i hb
      simp only [Bool.and_eq_true] at hb
      obtain ⟨e1, e2, e3, e4, e5, e6, e7, e8, e9, e10, e11⟩ := hb
      have e1 := Nat.eq_of_beq_eq_true e1; subst e1
      have e2 := Nat.eq_of_beq_eq_true e2; subst e2
      have e3 := Nat.eq_of_beq_eq_true e3; subst e3
      have e4 := Nat.eq_of_beq_eq_true e4; subst e4
      have e5 := Nat.eq_of_beq_eq_true e5; subst e5
      have e6 := Nat.eq_of_beq_eq_true e6; subst e6
      have e7 := Nat.eq_of_beq_eq_true e7; subst e7
      have e8 := Nat.eq_of_beq_eq_true e8; subst e8
      have e9 := Nat.eq_of_beq_eq_true e9; subst e9
      have e10 := Nat.eq_of_beq_eq_true e10; subst e10
      have e11 := shBeq_eq e11; subst e11
      cases h
      exact rund_loc t n l g last
    · cases h
  · cases h

theorem samn_2 (n m l1 l2 : Nat) (c1 c2 : Option Nat) (r1 r2 : Bool) (f g : Nat → Nat → AV) (ii : Nat) : roundB EH1 2000 samL ((samU n m l1 l2 c1 c2 r1 r2 f g).hp) [] (samT n m l1 l2 c1 c2 r1 r2 f g ii) [Hint.b true, Hint.node [], Hint.b false] (samT n m l1 l2 c1 c2 r1 r2 f g (ii + 1)) =
 some (Ex.norm, [(0 : Nat) = 0,
 n = n,
 c1 = c1,
 (0 : Nat) = 0,
 m = m,
 c2 = c2,
 IntKind.i64.wrap (Int.ofNat ii + 1) = Int.ofNat (ii + 1),
 r1 = r1,
 l1 ≤ l1,
 f = f ∧ plainSh cSh = true ∨ ∀ (i : Nat), i < l1 → rowOb cSh 0 (f i) (f i),
 r2 = r2,
 l2 ≤ l2,
 g = g ∧ plainSh dSh = true ∨ ∀ (i : Nat), i < l2 → rowOb dSh 0 (g i) (g i),
 (and2 (avInt (f (0 + ii) 0) == avInt (g (0 + ii) 0)) (and2 (IntKind.i64.wrap (avInt (f (0 + ii) 1)) == avInt (g (0 + ii) 1)) (and2 (avInt (f (0 + ii) 2) == avInt (g (0 + ii) 2)) (and2 (avInt (f (0 + ii) 3) == avInt (g (0 + ii) 3)) (and2 (IntKind.i64.wrap (avInt (f (0 + ii) 4)) == avInt (g (0 + ii) 4)) (and2 (avInt (f (0 + ii) 5) == avInt (g (0 + ii) 5)) (and2 (avInt (f (0 + ii) 6) == avInt (g (0 + ii) 6)) (and2 (avInt (f (0 + ii) 7) == avInt (g (0 + ii) 7)) (and2 (avInt (f (0 + ii) 8) == avInt (g (0 + ii) 8)) true)))))))) == false) = false,
 (0 + ii).blt l2 = true,
 (ii.blt m && decide (0 ≤ Int.ofNat ii)) = true,
 (0 + ii).blt l1 = true,
 (ii.blt n && decide (0 ≤ Int.ofNat ii)) = true,
 decide (Int.ofNat ii < Int.ofNat n) = true]) := by kernel_rfl
theorem samn_3 (n m l1 l2 : Nat) (c1 c2 : Option Nat) (r1 r2 : Bool) (f g : Nat → Nat → AV) (ii : Nat) : roundB EH1 2000 samL ((samU n m l1 l2 c1 c2 r1 r2 f g).hp) [] (samT n m l1 l2 c1 c2 r1 r2 f g ii) [Hint.b false] (samS n m l1 l2 c1 c2 r1 r2 f g) =
 some (Ex.exit 0, [r1 = r1,
 l1 ≤ l1,
 f = f ∧ plainSh cSh = true ∨ ∀ (i : Nat), i < l1 → rowOb cSh 0 (f i) (f i),
 r2 = r2,
 l2 ≤ l2,
 g = g ∧ plainSh dSh = true ∨ ∀ (i : Nat), i < l2 → rowOb dSh 0 (g i) (g i),
 decide (Int.ofNat ii < Int.ofNat n) = false]) := by kernel_rfl
theorem sami_1 (n m l1 l2 : Nat) (c1 c2 : Option Nat) (r1 r2 : Bool) (f g : Nat → Nat → AV) : castSt ((samU n m l1 l2 c1 c2 r1 r2 f g).hp) [] (samU n m l1 l2 c1 c2 r1 r2 f g) (samT n m l1 l2 c1 c2 r1 r2 f g 0) =
 some ([(0 : Nat) = 0,
 n = n,
 c1 = c1,
 (0 : Nat) = 0,
 m = m,
 c2 = c2,
 (0 : Int) = 0,
 r1 = r1,
 l1 ≤ l1,
 f = f ∧ plainSh cSh = true ∨ ∀ (i : Nat), i < l1 → rowOb cSh 0 (f i) (f i),
 r2 = r2,
 l2 ≤ l2,
 g = g ∧ plainSh dSh = true ∨ ∀ (i : Nat), i < l2 → rowOb dSh 0 (g i) (g i)]) := by kernel_rfl
theorem samcn_1 (n m l1 l2 : Nat) (c1 c2 : Option Nat) (r1 r2 : Bool) (f g : Nat → Nat → AV) : callB EH1 2000 32 [AV.ss 9 1 0 n c1, AV.ss 9 2 0 m c2] (samH n m l1 l2 c1 c2 r1 r2 f g) (samR n m l1 l2 c1 c2 r1 r2 f g) [] [Hint.b false, Hint.lp [0, 1, 4, 5] (Ex.exit 0) (samS n m l1 l2 c1 c2 r1 r2 f g).tmps (samH n m l1 l2 c1 c2 r1 r2 f g) 3 []] =
 some ([r1 = r1,
 l1 ≤ l1,
 f = f ∧ plainSh cSh = true ∨ ∀ (i : Nat), i < l1 → rowOb cSh 0 (f i) (f i),
 r2 = r2,
 l2 ≤ l2,
 g = g ∧ plainSh dSh = true ∨ ∀ (i : Nat), i < l2 → rowOb dSh 0 (g i) (g i),
 samLN n m l1 l2 c1 c2 r1 r2 f g,
 (Int.ofNat n != Int.ofNat m) = false]) := by kernel_rfl
theorem sam_lpn (n m l1 l2 : Nat) (c1 c2 : Option Nat) (r1 r2 : Bool) (f g : Nat → Nat → AV) (hl : n ≤ l1) (hk : n ≤ l2) (hnm : n = m) (hm : n ≤ 1000000) (qno : ∀ i, i < n → samP n m l1 l2 c1 c2 r1 r2 f g i = false)  : samLN n m l1 l2 c1 c2 r1 r2 f g := by
  refine loop_rule EH1_ok (I := Nat) (fun i => samT n m l1 l2 c1 c2 r1 r2 f g i) (fun i => n - i) (fun i => i ≤ n) ?_ (fun ii hi => ?_)
  ·
    refine ⟨0, [], _, Nat.zero_le _, sami_1 .., (ob_cons rfl (ob_cons rfl (ob_cons rfl (ob_cons rfl (ob_cons rfl (ob_cons rfl (ob_cons rfl (ob_cons rfl (ob_cons (Nat.le_refl _) (ob_cons (.inl ⟨rfl, rfl⟩) (ob_cons rfl (ob_cons (Nat.le_refl _) (ob_cons (.inl ⟨rfl, rfl⟩) ob_nil)))))))))))))⟩
  cases h1 : (decide (Int.ofNat ii < Int.ofNat n)) with
  | true =>
    have g1 := of_decide_eq_true h1
    try simp only [Int.ofNat_eq_natCast, ge_iff_le, gt_iff_lt, Int.not_lt, Int.not_le] at g1
    refine round_norm (s0 := samU n m l1 l2 c1 c2 r1 r2 f g) (ii + 1) (samn_2 ..) (ob_cons rfl (ob_cons rfl (ob_cons rfl (ob_cons rfl (ob_cons rfl (ob_cons rfl (ob_cons ?_ (ob_cons rfl (ob_cons (Nat.le_refl _) (ob_cons (.inl ⟨rfl, rfl⟩) (ob_cons rfl (ob_cons (Nat.le_refl _) (ob_cons (.inl ⟨rfl, rfl⟩) (ob_cons ?_ (ob_cons ?_ (ob_cons ?_ (ob_cons ?_ (ob_cons ?_ (ob_cons h1 ob_nil))))))))))))))))))) (by show ii + 1 ≤ n; omega) (by show n - (ii + 1) < n - ii; omega)
    ·
      first | exact wrap_nat64 _ (by simp; omega) (by simp; omega) | (simp; omega) | (have q := qno ii (by omega); unfold samP at q; (try simp only [h1] at q); (try simp [and2] at q); (try simp); first | exact q | omega | (simp_all; done)) | (simp [hnm]; done)
    ·
      first | (apply Nat.ble_eq_true_of_le; omega) | (simp [Nat.blt_eq]; omega) | (simp; omega) | (have q := qno ii (by omega); unfold samP at q; (try simp only [h1] at q); (try simp [and2] at q); (try simp); first | exact q | omega | (simp_all; done)) | (simp [hnm]; done)
    ·
      first | (apply Nat.ble_eq_true_of_le; omega) | (simp [Nat.blt_eq]; omega) | (simp; omega) | (have q := qno ii (by omega); unfold samP at q; (try simp only [h1] at q); (try simp [and2] at q); (try simp); first | exact q | omega | (simp_all; done)) | (simp [hnm]; done)
    ·
      first | (apply Nat.ble_eq_true_of_le; omega) | (simp [Nat.blt_eq]; omega) | (simp; omega) | (have q := qno ii (by omega); unfold samP at q; (try simp only [h1] at q); (try simp [and2] at q); (try simp); first | exact q | omega | (simp_all; done)) | (simp [hnm]; done)
    ·
      first | (apply Nat.ble_eq_true_of_le; omega) | (simp [Nat.blt_eq]; omega) | (simp; omega) | (have q := qno ii (by omega); unfold samP at q; (try simp only [h1] at q); (try simp [and2] at q); (try simp); first | exact q | omega | (simp_all; done)) | (simp [hnm]; done)
    ·
      first | (apply Nat.ble_eq_true_of_le; omega) | (simp [Nat.blt_eq]; omega) | (simp; omega) | (have q := qno ii (by omega); unfold samP at q; (try simp only [h1] at q); (try simp [and2] at q); (try simp); first | exact q | omega | (simp_all; done)) | (simp [hnm]; done)
  | false =>
    have g1 := of_decide_eq_false h1
    try simp only [Int.ofNat_eq_natCast, ge_iff_le, gt_iff_lt, Int.not_lt, Int.not_le] at g1
    refine round_exit (s0 := samU n m l1 l2 c1 c2 r1 r2 f g) (samn_3 ..) (by simp) (ob_cons rfl (ob_cons (Nat.le_refl _) (ob_cons (.inl ⟨rfl, rfl⟩) (ob_cons rfl (ob_cons (Nat.le_refl _) (ob_cons (.inl ⟨rfl, rfl⟩) (ob_cons h1 ob_nil)))))))
theorem sam_loc (n m l1 l2 : Nat) (c1 c2 : Option Nat) (r1 r2 : Bool) (f g : Nat → Nat → AV) : LocOk Try.prog 32 [.ss 9 1 0 n c1, .ss 9 2 0 m c2] (samH n m l1 l2 c1 c2 r1 r2 f g) (samR n m l1 l2 c1 c2 r1 r2 f g) := by
  refine loc_of_call EH1_ok (fun hp => ?_)
  have hl : n ≤ l1 := hp _ (List.mem_cons_self ..)
  have hk : n ≤ l2 := hp _ (List.mem_cons_of_mem _ (List.mem_cons_self ..))
  have hnm : n = m := hp _ (List.mem_cons_of_mem _ (List.mem_cons_of_mem _ (List.mem_cons_self ..)))
  have hm : n ≤ 1000000 := hp _ (List.mem_cons_of_mem _ (List.mem_cons_of_mem _ (List.mem_cons_of_mem _ (List.mem_cons_self ..))))
  have qno : ∀ i, i < n → samP n m l1 l2 c1 c2 r1 r2 f g i = false := hp _ (List.mem_cons_of_mem _ (List.mem_cons_of_mem _ (List.mem_cons_of_mem _ (List.mem_cons_of_mem _ (List.mem_cons_self ..)))))
  clear hp
  have hln := sam_lpn n m l1 l2 c1 c2 r1 r2 f g hl hk hnm hm qno
  refine ⟨2000, _, _, _, samcn_1 .., (ob_cons rfl (ob_cons (Nat.le_refl _) (ob_cons (.inl ⟨rfl, rfl⟩) (ob_cons rfl (ob_cons (Nat.le_refl _) (ob_cons (.inl ⟨rfl, rfl⟩) (ob_cons ?_ (ob_cons ?_ ob_nil))))))))⟩
  ·
    first | trivial | exact hln | (simp only [srch_no qno, srchB_no qno]; done) | (rw [srch_no qno]; done) | (simp [hnm]; done)
  ·
    first | (apply Nat.ble_eq_true_of_le; omega) | (simp [Nat.blt_eq]; omega) | exact hln | (simp only [srch_no qno, srchB_no qno]; done) | (rw [srch_no qno]; done) | (simp [hnm]; done)
noncomputable def samSpec : LSpec := fun la lh => match la, lh with
  | [.ss z1 z2 z3 n c1, .ss z4 z5 z6 m c2], [(z7, .arr z8 z9 r1 l1 f), (z10, .arr z11 z12 r2 l2 g)] =>
    match Nat.beq z1 9 && (Nat.beq z2 1 && (Nat.beq z3 0 && (Nat.beq z4 9 && (Nat.beq z5 2 && (Nat.beq z6 0 && (Nat.beq z7 1 && (Nat.beq z8 9 && (shBeq z9 cSh && (Nat.beq z10 2 && (Nat.beq z11 9 && (shBeq z12 dSh))))))))))) with
    | true => some (samR n m l1 l2 c1 c2 r1 r2 f g)
    | false => none
  | _, _ => none
theorem samSpec_ok (la : List AV) (lh : List (Nat × AO)) (R : LR) (h : samSpec la lh = some R) : LocOk Try.prog 32 la lh R := by
  unfold samSpec at h
  split at h
  · rename_i z1 z2 z3 n c1 z4 z5 z6 m c2 z7 z8 z9 r1 l1 f z10 z11 z12 r2 l2 g
    split at h
    · rename_i hb
      simp only [Bool.and_eq_true] at hb
      obtain ⟨e1, e2, e3, e4, e5, e6, e7, e8, e9, e10, e11, e12⟩ := hb
      have e1 := Nat.eq_of_beq_eq_true e1; subst e1
      have e2 := Nat.eq_of_beq_eq_true e2; subst e2
      have e3 := Nat.eq_of_beq_eq_true e3; subst e3
      have e4 := Nat.eq_of_beq_eq_true e4; subst e4
      have e5 := Nat.eq_of_beq_eq_true e5; subst e5
      have e6 := Nat.eq_of_beq_eq_true e6; subst e6
      have e7 := Nat.eq_of_beq_eq_true e7; subst e7
      have e8 := Nat.eq_of_beq_eq_true e8; subst e8
      have e9 := shBeq_eq e9; subst e9
      have e10 := Nat.eq_of_beq_eq_true e10; subst e10
      have e11 := Nat.eq_of_beq_eq_true e11; subst e11
      have e12 := shBeq_eq e12; subst e12
      cases h
      exact sam_loc n m l1 l2 c1 c2 r1 r2 f g
    · cases h
  · cases h

end Go.Proofs.Ytnecknppajbcdaa
