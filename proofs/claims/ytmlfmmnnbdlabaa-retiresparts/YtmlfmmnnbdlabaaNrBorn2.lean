/-
  The program's Born.
-/
import Derived.Test.YtmlfmmnnbdlabaaNrBorn2Def
set_option linter.unusedSimpArgs false
set_option linter.unusedVariables false
namespace Go.Proofs.Ytmlfmmnnbdlabaa
open Go.Ev
section
variable (n l : Nat) (f : Nat → Nat → AV) (M : List Int → Option Int) (b : Int)
theorem bp_1 (i : Nat) : roundB EA 2000 lcBp ((bpU n l f M b).hp) [] (bpT n l f M b i) [Hint.b true, Hint.b true] (bpT n l f M b (i + 1)) =
 some (Ex.norm, [b = b,
 IntKind.i64.wrap (Int.ofNat (cntB (bornP 0 f b) i) + 1) = Int.ofNat (cntB (bornP 0 f b) (i + 1)),
 (0 : Nat) = 0,
 n = n,
 some n = some n,
 Int.ofNat n = Int.ofNat n,
 IntKind.i64.wrap (Int.ofNat i + 1) = Int.ofNat (i + 1),
 (0 : Nat) = 0,
 n = n,
 (none : Option Nat) = none,
 false = false,
 l ≤ l,
 f = f ∧ plainSh eSh = true ∨ ∀ (i : Nat), i < l → rowOb eSh 0 (f i) (f i),
 ∀ (k : List Int), M k = M k,
 false = false,
 n ≤ n,
 f = f ∧ plainSh eSh = true ∨ ∀ (i : Nat), i < n → rowOb eSh 0 (f i) (f i),
 decide (avInt (f (0 + i) 3) < b) = true,
 (0 + i).blt n = true,
 (i.blt n && decide (0 ≤ Int.ofNat i)) = true,
 decide (Int.ofNat i < Int.ofNat n) = true]) := by kernel_rfl
theorem bp_2 (i : Nat) : roundB EA 2000 lcBp ((bpU n l f M b).hp) [] (bpT n l f M b i) [Hint.b true, Hint.b false] (bpT n l f M b (i + 1)) =
 some (Ex.norm, [b = b,
 Int.ofNat (cntB (bornP 0 f b) i) = Int.ofNat (cntB (bornP 0 f b) (i + 1)),
 (0 : Nat) = 0,
 n = n,
 some n = some n,
 Int.ofNat n = Int.ofNat n,
 IntKind.i64.wrap (Int.ofNat i + 1) = Int.ofNat (i + 1),
 (0 : Nat) = 0,
 n = n,
 (none : Option Nat) = none,
 false = false,
 l ≤ l,
 f = f ∧ plainSh eSh = true ∨ ∀ (i : Nat), i < l → rowOb eSh 0 (f i) (f i),
 ∀ (k : List Int), M k = M k,
 false = false,
 n ≤ n,
 f = f ∧ plainSh eSh = true ∨ ∀ (i : Nat), i < n → rowOb eSh 0 (f i) (f i),
 decide (avInt (f (0 + i) 3) < b) = false,
 (0 + i).blt n = true,
 (i.blt n && decide (0 ≤ Int.ofNat i)) = true,
 decide (Int.ofNat i < Int.ofNat n) = true]) := by kernel_rfl
theorem bp_3 (i : Nat) : roundB EA 2000 lcBp ((bpU n l f M b).hp) [] (bpT n l f M b i) [Hint.b false] (bpS n l f M b) =
 some (Ex.exit 0, [Int.ofNat (cntB (bornP 0 f b) i) = Int.ofNat (cntB (bornP 0 f b) n),
 (0 : Nat) = 0,
 n = n,
 (none : Option Nat) = none,
 false = false,
 l ≤ l,
 f = f ∧ plainSh eSh = true ∨ ∀ (i : Nat), i < l → rowOb eSh 0 (f i) (f i),
 ∀ (k : List Int), M k = M k,
 false = false,
 n ≤ n,
 f = f ∧ plainSh eSh = true ∨ ∀ (i : Nat), i < n → rowOb eSh 0 (f i) (f i),
 decide (Int.ofNat i < Int.ofNat n) = false]) := by kernel_rfl
theorem bp_lp (hl : n ≤ l) (hn : n ≤ 1000000) : bpLp n l f M b := by
  refine loop_rule EA_ok (I := Nat) (fun i => bpT n l f M b i) (fun i => n - i) (fun i => i ≤ n) ?_ (fun i hi => ?_)
  · exact ⟨0, [], _, Nat.zero_le _, (by kernel_rfl : castSt _ [] _ _ = some ([b = b, (0 : Int) = Int.ofNat 0, (0 : Nat) = 0, n = n, some n = some n, Int.ofNat n = Int.ofNat n, (0 : Int) = Int.ofNat 0] ++ bpHO' n l f M)), ob_app (ob_cons rfl (ob_cons rfl (ob_cons rfl (ob_cons rfl (ob_cons rfl (ob_cons rfl (ob_cons rfl ob_nil))))))) (bpHO'_ok n l f M)⟩
  have hc := cntB_le (bornP 0 f b) i
  have hi' : i ≤ 1000000 := by omega
  cases h1 : (decide (Int.ofNat i < Int.ofNat n)) with
  | true =>
    have g1 := of_decide_eq_true h1
    try simp only [Int.ofNat_eq_natCast, ge_iff_le, gt_iff_lt, Int.not_lt, Int.not_le] at g1
    cases h2 : (decide (avInt (f (0 + i) 3) < b)) with
    | true =>
      have g2 := of_decide_eq_true h2
      try simp only [Int.ofNat_eq_natCast, ge_iff_le, gt_iff_lt, Int.not_lt, Int.not_le] at g2
      refine round_norm (s0 := bpU n l f M b) (i + 1) (bp_1 ..) (ob_cons rfl (ob_cons ?_ (ob_cons rfl (ob_cons rfl (ob_cons rfl (ob_cons rfl (ob_cons ?_ (ob_cons rfl (ob_cons rfl (ob_cons rfl (ob_cons rfl (ob_cons (Nat.le_refl _) (ob_cons (.inl ⟨rfl, rfl⟩) (ob_cons (fun _ => rfl) (ob_cons rfl (ob_cons (Nat.le_refl _) (ob_cons (.inl ⟨rfl, rfl⟩) (ob_cons h2 (ob_cons ?_ (ob_cons ?_ (ob_cons h1 ob_nil))))))))))))))))))))) (by show i + 1 ≤ n; omega) (by show n - (i + 1) < n - i; omega)
      ·
        first | exact wrap_nat64 _ (by simp; omega) (by simp; omega) | first | exact wrap_nat64 _ (by simp; omega) (by simp; omega) | (simp [Nat.blt_eq]; omega) | exact cnt_t hc h2 hi' | exact cnt_f h2 | exact cnt_e h1 hi
      ·
        first | exact wrap_nat64 _ (by simp; omega) (by simp; omega) | first | exact wrap_nat64 _ (by simp; omega) (by simp; omega) | (simp [Nat.blt_eq]; omega) | exact cnt_t hc h2 hi' | exact cnt_f h2 | exact cnt_e h1 hi
      ·
        first | (apply Nat.ble_eq_true_of_le; omega) | (simp [Nat.blt_eq]; omega) | first | exact wrap_nat64 _ (by simp; omega) (by simp; omega) | (simp [Nat.blt_eq]; omega) | exact cnt_t hc h2 hi' | exact cnt_f h2 | exact cnt_e h1 hi
      ·
        first | (apply Nat.ble_eq_true_of_le; omega) | (simp [Nat.blt_eq]; omega) | first | exact wrap_nat64 _ (by simp; omega) (by simp; omega) | (simp [Nat.blt_eq]; omega) | exact cnt_t hc h2 hi' | exact cnt_f h2 | exact cnt_e h1 hi
    | false =>
      have g2 := of_decide_eq_false h2
      try simp only [Int.ofNat_eq_natCast, ge_iff_le, gt_iff_lt, Int.not_lt, Int.not_le] at g2
      refine round_norm (s0 := bpU n l f M b) (i + 1) (bp_2 ..) (ob_cons rfl (ob_cons ?_ (ob_cons rfl (ob_cons rfl (ob_cons rfl (ob_cons rfl (ob_cons ?_ (ob_cons rfl (ob_cons rfl (ob_cons rfl (ob_cons rfl (ob_cons (Nat.le_refl _) (ob_cons (.inl ⟨rfl, rfl⟩) (ob_cons (fun _ => rfl) (ob_cons rfl (ob_cons (Nat.le_refl _) (ob_cons (.inl ⟨rfl, rfl⟩) (ob_cons h2 (ob_cons ?_ (ob_cons ?_ (ob_cons h1 ob_nil))))))))))))))))))))) (by show i + 1 ≤ n; omega) (by show n - (i + 1) < n - i; omega)
      ·
        first | rfl | first | exact wrap_nat64 _ (by simp; omega) (by simp; omega) | (simp [Nat.blt_eq]; omega) | exact cnt_t hc h2 hi' | exact cnt_f h2 | exact cnt_e h1 hi
      ·
        first | exact wrap_nat64 _ (by simp; omega) (by simp; omega) | first | exact wrap_nat64 _ (by simp; omega) (by simp; omega) | (simp [Nat.blt_eq]; omega) | exact cnt_t hc h2 hi' | exact cnt_f h2 | exact cnt_e h1 hi
      ·
        first | (apply Nat.ble_eq_true_of_le; omega) | (simp [Nat.blt_eq]; omega) | first | exact wrap_nat64 _ (by simp; omega) (by simp; omega) | (simp [Nat.blt_eq]; omega) | exact cnt_t hc h2 hi' | exact cnt_f h2 | exact cnt_e h1 hi
      ·
        first | (apply Nat.ble_eq_true_of_le; omega) | (simp [Nat.blt_eq]; omega) | first | exact wrap_nat64 _ (by simp; omega) (by simp; omega) | (simp [Nat.blt_eq]; omega) | exact cnt_t hc h2 hi' | exact cnt_f h2 | exact cnt_e h1 hi
  | false =>
    have g1 := of_decide_eq_false h1
    try simp only [Int.ofNat_eq_natCast, ge_iff_le, gt_iff_lt, Int.not_lt, Int.not_le] at g1
    refine round_exit (s0 := bpU n l f M b) (bp_3 ..) (by simp) (ob_cons ?_ (ob_cons rfl (ob_cons rfl (ob_cons rfl (ob_cons rfl (ob_cons (Nat.le_refl _) (ob_cons (.inl ⟨rfl, rfl⟩) (ob_cons (fun _ => rfl) (ob_cons rfl (ob_cons (Nat.le_refl _) (ob_cons (.inl ⟨rfl, rfl⟩) (ob_cons h1 ob_nil))))))))))))
    ·
      first | rfl | first | exact wrap_nat64 _ (by simp; omega) (by simp; omega) | (simp [Nat.blt_eq]; omega) | exact cnt_t hc h2 hi' | exact cnt_f h2 | exact cnt_e h1 hi
theorem bp_c : callB EA 2000 18 [.ptr 1 0 0, .sym .u64 b] (lstH n l f M) (bpR n l f M b) [] [.b false, .lp [1, 5, 9, 10, 11] (.exit 0) (bpS n l f M b).tmps (bpS n l f M b).hp.heap 6 []] =
  some ([Int.ofNat (cntB (bornP 0 f b) n) = Int.ofNat (cntB (bornP 0 f b) n), 0 = 0, n = n, (none : Option Nat) = none, false = false, l ≤ l, (f = f ∧ plainSh eSh = true) ∨ ∀ i, i < l → rowOb eSh 0 (f i) (f i), ∀ k, M k = M k] ++ [bpLp n l f M b,
    (Nat.blt 0 (capOr (some (Int.ofNat n).toNat) n) || Nat.beq 0 0) = true, ((Int.ofNat n).toNat.ble (capOr (some (Int.ofNat n).toNat) n) && decide (0 ≤ Int.ofNat n)) = true,
          ((Int.ofNat n).toNat.ble (capOr none n) && decide (0 ≤ Int.ofNat n)) = true, n.beq 0 = false, (n * 40).ble 70368744177664 = true, (0 + n).ble l = true, Nat.blt 0 n = true]) := by kernel_rfl
theorem bp_loc : LocOk Try.prog 18 [.ptr 1 0 0, .sym .u64 b] (lstH n l f M) (bpR n l f M b) := by
  refine loc_of_call EA_ok (fun hp => ?_)
  have hl : n ≤ l := hp _ (List.mem_cons_self ..)
  have h0 : 0 < n := hp _ (List.mem_cons_of_mem _ (List.mem_cons_self ..))
  have hn : n ≤ 1000000 := hp _ (List.mem_cons_of_mem _ (List.mem_cons_of_mem _ (List.mem_cons_self ..)))
  refine ⟨2000, _, [], _, bp_c n l f M b, ob_app (ob_cons rfl (ob_cons rfl (ob_cons rfl (ob_cons rfl (ob_cons rfl (ob_cons (Nat.le_refl _) (ob_cons (.inl ⟨rfl, rfl⟩) (ob_cons (fun _ => rfl) ob_nil)))))))) (ob_cons ?_ (ob_cons (by simp [capOr]) (ob_cons (by simp [capOr]) (ob_cons (by simp [capOr]) (ob_cons ?_ (ob_cons ?_ (ob_cons ?_ (ob_cons ?_ ob_nil))))))))⟩
  · exact bp_lp n l f M b hl hn
  · rw [← Bool.not_eq_true, Nat.beq_eq]; omega
  · apply Nat.ble_eq_true_of_le; omega
  · apply Nat.ble_eq_true_of_le; omega
  · simp [Nat.blt_eq]; omega
end
noncomputable def bpSpec : LSpec := fun la lh => match la, lh with
  | [.ptr z1 z2 z3, .sym .u64 b], [(z4, .cells z5 [.ss z6 z7 z8 n none, .map z9]), (z10, .arr z11 z12 false l f), (z13, .map z14 M)] =>
    match Nat.beq z1 1 && (Nat.beq z2 0 && (Nat.beq z3 0 && (Nat.beq z4 1 && (Nat.beq z5 2 && (Nat.beq z6 6 && (Nat.beq z7 2 && (Nat.beq z8 0 && (Nat.beq z9 3 && (Nat.beq z10 2 && (Nat.beq z11 6 && (shBeq z12 eSh && (Nat.beq z13 3 && (Nat.beq z14 119))))))))))))) with
    | true => some (bpR n l f M b)
    | false => none
  | _, _ => none
theorem bpSpec_ok (la : List AV) (lh : List (Nat × AO)) (R : LR) (h : bpSpec la lh = some R) : LocOk Try.prog 18 la lh R := by
  unfold bpSpec at h
  split at h
  · rename_i z1 z2 z3 b z4 z5 z6 z7 z8 n z9 z10 z11 z12 l f z13 z14 M
    split at h
    · rename_i hb
      simp only [Bool.and_eq_true] at hb
      obtain ⟨e1, e2, e3, e4, e5, e6, e7, e8, e9, e10, e11, e12, e13, e14⟩ := hb
      have e1 := Nat.eq_of_beq_eq_true e1; subst e1
      have e2 := Nat.eq_of_beq_eq_true e2; subst e2
      have e3 := Nat.eq_of_beq_eq_true e3; subst e3
      have e4 := Nat.eq_of_beq_eq_true e4; subst e4
      have e5 := Nat.eq_of_beq_eq_true e5; subst e5
      have e6 := Nat.eq_of_beq_eq_true e6; subst e6
      have e7 := Nat.eq_of_beq_eq_true e7; subst e7
      have e8 := Nat.eq_of_beq_eq_true e8; subst e8
      have e9 := Nat.eq_of_beq_eq_true e9; subst e9
      have e10 := Nat.eq_of_beq_eq_true e10; subst e10
      have e11 := Nat.eq_of_beq_eq_true e11; subst e11
      have e12 := shBeq_eq e12; subst e12
      have e13 := Nat.eq_of_beq_eq_true e13; subst e13
      have e14 := Nat.eq_of_beq_eq_true e14; subst e14
      cases h
      exact bp_loc n l f M b
    · cases h
  · cases h

end Go.Proofs.Ytmlfmmnnbdlabaa
