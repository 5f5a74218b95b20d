/-
  Index.
-/
import Derived.Test.YtmndhjodbnojdaaDoorJVaDef
set_option linter.unusedSimpArgs false
set_option linter.unusedVariables false
namespace Go.Proofs.YtmndhjodbnojdaaDoor
open Go.Ev
theorem idzf_1 (n l : Nat) (r : Bool) (f : Nat → Nat → AV) (s : Int) (ii : Nat) : roundB EIx 2000 idzL ((idzU n l r f s).hp) [] (idzT n l r f s ii) [Hint.b true, Hint.b true] (idzQ n l r f s ii) =
 some (Ex.ret, [Int.ofNat ii = Int.ofNat ii,
 r = r,
 l ≤ l,
 f = f ∧ plainSh [CK.int IntKind.i64] = true ∨ ∀ (i : Nat), i < l → rowOb [CK.int IntKind.i64] 0 (f i) (f i),
 (s == avInt (f (0 + ii) 0)) = true,
 (0 + ii).blt l = true,
 (ii.blt n && decide (0 ≤ Int.ofNat ii)) = true,
 decide (Int.ofNat ii < Int.ofNat n) = true]) := by kernel_rfl
theorem idzf_2 (n l : Nat) (r : Bool) (f : Nat → Nat → AV) (s : Int) (ii : Nat) : roundB EIx 2000 idzL ((idzU n l r f s).hp) [] (idzT n l r f s ii) [Hint.b true, Hint.b false] (idzT n l r f s (ii + 1)) =
 some (Ex.norm, [(0 : Nat) = 0,
 n = n,
 (none : Option Nat) = none,
 s = s,
 (0 : Nat) = 0,
 n = n,
 (none : Option Nat) = none,
 Int.ofNat n = Int.ofNat n,
 IntKind.i64.wrap (Int.ofNat ii + 1) = Int.ofNat (ii + 1),
 r = r,
 l ≤ l,
 f = f ∧ plainSh [CK.int IntKind.i64] = true ∨ ∀ (i : Nat), i < l → rowOb [CK.int IntKind.i64] 0 (f i) (f i),
 (s == avInt (f (0 + ii) 0)) = false,
 (0 + ii).blt l = true,
 (ii.blt n && decide (0 ≤ Int.ofNat ii)) = true,
 decide (Int.ofNat ii < Int.ofNat n) = true]) := by kernel_rfl
theorem idzn_2 (n l : Nat) (r : Bool) (f : Nat → Nat → AV) (s : Int) (ii : Nat) : roundB EIx 2000 idzL ((idzU n l r f s).hp) [] (idzT n l r f s ii) [Hint.b true, Hint.b false] (idzT n l r f s (ii + 1)) =
 some (Ex.norm, [(0 : Nat) = 0,
 n = n,
 (none : Option Nat) = none,
 s = s,
 (0 : Nat) = 0,
 n = n,
 (none : Option Nat) = none,
 Int.ofNat n = Int.ofNat n,
 IntKind.i64.wrap (Int.ofNat ii + 1) = Int.ofNat (ii + 1),
 r = r,
 l ≤ l,
 f = f ∧ plainSh [CK.int IntKind.i64] = true ∨ ∀ (i : Nat), i < l → rowOb [CK.int IntKind.i64] 0 (f i) (f i),
 (s == avInt (f (0 + ii) 0)) = false,
 (0 + ii).blt l = true,
 (ii.blt n && decide (0 ≤ Int.ofNat ii)) = true,
 decide (Int.ofNat ii < Int.ofNat n) = true]) := by kernel_rfl
theorem idzn_3 (n l : Nat) (r : Bool) (f : Nat → Nat → AV) (s : Int) (ii : Nat) : roundB EIx 2000 idzL ((idzU n l r f s).hp) [] (idzT n l r f s ii) [Hint.b false] (idzS n l r f s) =
 some (Ex.exit 0, [r = r,
 l ≤ l,
 f = f ∧ plainSh [CK.int IntKind.i64] = true ∨ ∀ (i : Nat), i < l → rowOb [CK.int IntKind.i64] 0 (f i) (f i),
 decide (Int.ofNat ii < Int.ofNat n) = false]) := by kernel_rfl
theorem idzi_1 (n l : Nat) (r : Bool) (f : Nat → Nat → AV) (s : Int) : castSt ((idzU n l r f s).hp) [] (idzU n l r f s) (idzT n l r f s 0) =
 some ([(0 : Nat) = 0,
 n = n,
 (none : Option Nat) = none,
 s = s,
 (0 : Nat) = 0,
 n = n,
 (none : Option Nat) = none,
 Int.ofNat n = Int.ofNat n,
 (0 : Int) = 0,
 r = r,
 l ≤ l,
 f = f ∧ plainSh [CK.int IntKind.i64] = true ∨ ∀ (i : Nat), i < l → rowOb [CK.int IntKind.i64] 0 (f i) (f i)]) := by kernel_rfl
theorem idzcf_1 (n l : Nat) (r : Bool) (f : Nat → Nat → AV) (s : Int) (k : Nat) : callB EIx 2000 167 [AV.ss 1 1 0 n none, AV.sym IntKind.i64 s] (idzH n l r f s) (idzR n l r f s) [] [Hint.lp [0, 1, 6, 7, 8] Ex.ret (idzQ n l r f s k).tmps (idzH n l r f s) 2 []] =
 some ([Int.ofNat k = srch (idzP n l r f s) n (fun i => Int.ofNat i) (-1),
 r = r,
 l ≤ l,
 f = f ∧ plainSh [CK.int IntKind.i64] = true ∨ ∀ (i : Nat), i < l → rowOb [CK.int IntKind.i64] 0 (f i) (f i),
 idzLF n l r f s k]) := by kernel_rfl
theorem idzcn_1 (n l : Nat) (r : Bool) (f : Nat → Nat → AV) (s : Int) : callB EIx 2000 167 [AV.ss 1 1 0 n none, AV.sym IntKind.i64 s] (idzH n l r f s) (idzR n l r f s) [] [Hint.lp [0, 1, 6, 7, 8] (Ex.exit 0) (idzS n l r f s).tmps (idzH n l r f s) 2 []] =
 some ([-1 = srch (idzP n l r f s) n (fun i => Int.ofNat i) (-1),
 r = r,
 l ≤ l,
 f = f ∧ plainSh [CK.int IntKind.i64] = true ∨ ∀ (i : Nat), i < l → rowOb [CK.int IntKind.i64] 0 (f i) (f i),
 idzLN n l r f s]) := by kernel_rfl
theorem idz_lpf (n l : Nat) (r : Bool) (f : Nat → Nat → AV) (s : Int) (hl : n ≤ l) (hm : n ≤ 1000000) (k : Nat) (hk : k < n) (qk2 : idzP n l r f s k = true) (qk3 : ∀ i, i < k → idzP n l r f s i = false) : idzLF n l r f s k := by
  refine loop_rule EIx_ok (I := Nat) (fun i => idzT n l r f s i) (fun i => k - i) (fun i => i ≤ k) ?_ (fun ii hi => ?_)
  ·
    refine ⟨0, [], _, Nat.zero_le _, idzi_1 .., (ob_cons rfl (ob_cons rfl (ob_cons rfl (ob_cons rfl (ob_cons rfl (ob_cons rfl (ob_cons rfl (ob_cons rfl (ob_cons rfl (ob_cons rfl (ob_cons (Nat.le_refl _) (ob_cons (.inl ⟨rfl, rfl⟩) ob_nil))))))))))))⟩
  cases h1 : (s == avInt (f (0 + ii) 0)) with
  | true =>
    have hpp : idzP n l r f s ii = true := by (unfold idzP; (try rw [h1]); first | done | rfl | (simp; done) | (simp_all; done) | (simp_all [and2]; done))
    have hke : ii = k := by (rcases Nat.lt_or_ge ii k with q | q <;> first | (rw [qk3 ii q] at hpp; cases hpp) | omega)
    subst hke
    refine round_exit (s0 := idzU n l r f s) (idzf_1 ..) (by simp) (ob_cons rfl (ob_cons rfl (ob_cons (Nat.le_refl _) (ob_cons (.inl ⟨rfl, rfl⟩) (ob_cons h1 (ob_cons ?_ (ob_cons ?_ (ob_cons ?_ ob_nil))))))))
    · (apply Nat.ble_eq_true_of_le; omega)
    · (simp [Nat.blt_eq]; omega)
    · (simp [Nat.blt_eq]; omega)
  | false =>
    have hpp : idzP n l r f s ii = false := by (unfold idzP; (try rw [h1]); first | done | rfl | (simp; done) | (simp_all; done) | (simp_all [and2]; done))
    have hne : ii ≠ k := fun e => by (subst e; rw [qk2] at hpp; cases hpp)
    refine round_norm (s0 := idzU n l r f s) (ii + 1) (idzf_2 ..) (ob_cons rfl (ob_cons rfl (ob_cons rfl (ob_cons rfl (ob_cons rfl (ob_cons rfl (ob_cons rfl (ob_cons rfl (ob_cons ?_ (ob_cons rfl (ob_cons (Nat.le_refl _) (ob_cons (.inl ⟨rfl, rfl⟩) (ob_cons h1 (ob_cons ?_ (ob_cons ?_ (ob_cons ?_ ob_nil)))))))))))))))) (by show ii + 1 ≤ k; omega) (by show k - (ii + 1) < k - ii; omega)
    · exact wrap_nat64 _ (by simp; omega) (by simp; omega)
    · (apply Nat.ble_eq_true_of_le; omega)
    · (simp [Nat.blt_eq]; omega)
    · (simp [Nat.blt_eq]; omega)
theorem idz_lpn (n l : Nat) (r : Bool) (f : Nat → Nat → AV) (s : Int) (hl : n ≤ l) (hm : n ≤ 1000000) (qno : ∀ i, i < n → idzP n l r f s i = false) : idzLN n l r f s := by
  refine loop_rule EIx_ok (I := Nat) (fun i => idzT n l r f s i) (fun i => n - i) (fun i => i ≤ n) ?_ (fun ii hi => ?_)
  ·
    refine ⟨0, [], _, Nat.zero_le _, idzi_1 .., (ob_cons rfl (ob_cons rfl (ob_cons rfl (ob_cons rfl (ob_cons rfl (ob_cons rfl (ob_cons rfl (ob_cons rfl (ob_cons rfl (ob_cons rfl (ob_cons (Nat.le_refl _) (ob_cons (.inl ⟨rfl, rfl⟩) ob_nil))))))))))))⟩
  cases h1 : (decide (Int.ofNat ii < Int.ofNat n)) with
  | true =>
    have g1 := of_decide_eq_true h1
    try simp only [Int.ofNat_eq_natCast, ge_iff_le, gt_iff_lt, Int.not_lt, Int.not_le] at g1
    refine round_norm (s0 := idzU n l r f s) (ii + 1) (idzn_2 ..) (ob_cons rfl (ob_cons rfl (ob_cons rfl (ob_cons rfl (ob_cons rfl (ob_cons rfl (ob_cons rfl (ob_cons rfl (ob_cons ?_ (ob_cons rfl (ob_cons (Nat.le_refl _) (ob_cons (.inl ⟨rfl, rfl⟩) (ob_cons ?_ (ob_cons ?_ (ob_cons ?_ (ob_cons h1 ob_nil)))))))))))))))) (by show ii + 1 ≤ n; omega) (by show n - (ii + 1) < n - ii; omega)
    · exact wrap_nat64 _ (by simp; omega) (by simp; omega)
    · (have q := qno ii (by omega); unfold idzP at q; (try simp only [h1] at q); (try simp [and2] at q); (try simp); first | exact q | omega | (simp_all; done))
    · (apply Nat.ble_eq_true_of_le; omega)
    · (simp [Nat.blt_eq]; omega)
  | false =>
    have g1 := of_decide_eq_false h1
    try simp only [Int.ofNat_eq_natCast, ge_iff_le, gt_iff_lt, Int.not_lt, Int.not_le] at g1
    refine round_exit (s0 := idzU n l r f s) (idzn_3 ..) (by simp) (ob_cons rfl (ob_cons (Nat.le_refl _) (ob_cons (.inl ⟨rfl, rfl⟩) (ob_cons h1 ob_nil))))
theorem idz_loc (n l : Nat) (r : Bool) (f : Nat → Nat → AV) (s : Int) : LocOk Tryd.prog 167 [.ss 1 1 0 n none, .sym .i64 s] (idzH n l r f s) (idzR n l r f s) := by
  refine loc_of_call EIx_ok (fun hp => ?_)
  have hl : n ≤ l := hp _ (List.mem_cons_self ..)
  have hm : n ≤ 1000000 := hp _ (List.mem_cons_of_mem _ (List.mem_cons_self ..))
  clear hp
  rcases first_true (idzP n l r f s) (n) with qno | ⟨k, hk, qk2, qk3⟩
  · have hln := idz_lpn n l r f s hl hm qno
    refine ⟨2000, _, _, _, idzcn_1 .., (ob_cons ?_ (ob_cons rfl (ob_cons (Nat.le_refl _) (ob_cons (.inl ⟨rfl, rfl⟩) (ob_cons ?_ ob_nil)))))⟩
    · (simp only [srch_no qno, srchB_no qno]; done)
    · trivial
  · have hlf := idz_lpf n l r f s hl hm k hk qk2 qk3
    refine ⟨2000, _, _, _, idzcf_1 n l r f s k, (ob_cons ?_ (ob_cons rfl (ob_cons (Nat.le_refl _) (ob_cons (.inl ⟨rfl, rfl⟩) (ob_cons ?_ ob_nil)))))⟩
    · (simp only [srch_at hk qk2 qk3, srchB_at hk qk2 qk3]; done)
    · trivial
noncomputable def idzSpec : LSpec := fun la lh => match la, lh with
  | [.ss z1 z2 z3 n none, .sym .i64 s], [(z4, .arr z5 z6 r l f)] =>
    match Nat.beq z1 1 && (Nat.beq z2 1 && (Nat.beq z3 0 && (Nat.beq z4 1 && (Nat.beq z5 1 && (shBeq z6 iSh))))) with
    | true => some (idzR n l r f s)
    | false => none
  | _, _ => none
theorem idzSpec_ok (la : List AV) (lh : List (Nat × AO)) (R : LR) (h : idzSpec la lh = some R) : LocOk Tryd.prog 167 la lh R := by
  unfold idzSpec at h
  split at h
  · rename_i z1 z2 z3 n s z4 z5 z6 r l f
    split at h
    · rename_i hb
      simp only [Bool.and_eq_true] at hb
      obtain ⟨e1, e2, e3, e4, e5, e6⟩ := hb
      have e1 := Nat.eq_of_beq_eq_true e1; subst e1
      have e2 := Nat.eq_of_beq_eq_true e2; subst e2
      have e3 := Nat.eq_of_beq_eq_true e3; subst e3
      have e4 := Nat.eq_of_beq_eq_true e4; subst e4
      have e5 := Nat.eq_of_beq_eq_true e5; subst e5
      have e6 := shBeq_eq e6; subst e6
      cases h
      exact idz_loc n l r f s
    · cases h
  · cases h

end Go.Proofs.YtmndhjodbnojdaaDoor
