/-
  Stalls: Pins, any capacity.
-/
import Derived.Test.YtephpkfajobhmaaWSzDef
set_option linter.unusedSimpArgs false
set_option linter.unusedVariables false
namespace Go.Proofs.Ytephpkfajobhmaa
open Go.Ev
theorem szIf_1 (n l : Nat) (r : Bool) (g : Nat → Nat → AV) (sl ge : Int) (mk : Bool) (b ep er : Int) (cc : Option Nat) (ii : Nat) : roundB EM0 2000 szIL ((szIU n l r g sl ge mk b ep er cc).hp) [] (szIT n l r g sl ge mk b ep er cc ii) [Hint.b true, Hint.b true] (szIQ n l r g sl ge mk b ep er cc ii) =
 some (Ex.ret, [Int.ofNat ii = Int.ofNat ii,
 r = r,
 l ≤ l,
 g = g ∧ plainSh tSh = true ∨ ∀ (i : Nat), i < l → rowOb tSh 0 (g i) (g i),
 sl = sl,
 ge = ge,
 mk = mk,
 b = b,
 ep = ep,
 er = er,
 decide (avInt (g (0 + ii) 6) > b) = true,
 (0 + ii).blt l = true,
 (ii.blt n && decide (0 ≤ Int.ofNat ii)) = true,
 decide (Int.ofNat ii < Int.ofNat n) = true]) := by kernel_rfl
theorem szIf_2 (n l : Nat) (r : Bool) (g : Nat → Nat → AV) (sl ge : Int) (mk : Bool) (b ep er : Int) (cc : Option Nat) (ii : Nat) : roundB EM0 2000 szIL ((szIU n l r g sl ge mk b ep er cc).hp) [] (szIT n l r g sl ge mk b ep er cc ii) [Hint.b true, Hint.b false] (szIT n l r g sl ge mk b ep er cc (ii + 1)) =
 some (Ex.norm, [(0 : Nat) = 0,
 n = n,
 cc = cc,
 (0 : Nat) = 0,
 (0 : Nat) = 0,
 (0 : Nat) = 0,
 n = n,
 cc = cc,
 Int.ofNat n = Int.ofNat n,
 IntKind.i64.wrap (Int.ofNat ii + 1) = Int.ofNat (ii + 1),
 r = r,
 l ≤ l,
 g = g ∧ plainSh tSh = true ∨ ∀ (i : Nat), i < l → rowOb tSh 0 (g i) (g i),
 sl = sl,
 ge = ge,
 mk = mk,
 b = b,
 ep = ep,
 er = er,
 decide (avInt (g (0 + ii) 6) > b) = false,
 (0 + ii).blt l = true,
 (ii.blt n && decide (0 ≤ Int.ofNat ii)) = true,
 decide (Int.ofNat ii < Int.ofNat n) = true]) := by kernel_rfl
theorem szIn_2 (n l : Nat) (r : Bool) (g : Nat → Nat → AV) (sl ge : Int) (mk : Bool) (b ep er : Int) (cc : Option Nat) (ii : Nat) : roundB EM0 2000 szIL ((szIU n l r g sl ge mk b ep er cc).hp) [] (szIT n l r g sl ge mk b ep er cc ii) [Hint.b true, Hint.b false] (szIT n l r g sl ge mk b ep er cc (ii + 1)) =
 some (Ex.norm, [(0 : Nat) = 0,
 n = n,
 cc = cc,
 (0 : Nat) = 0,
 (0 : Nat) = 0,
 (0 : Nat) = 0,
 n = n,
 cc = cc,
 Int.ofNat n = Int.ofNat n,
 IntKind.i64.wrap (Int.ofNat ii + 1) = Int.ofNat (ii + 1),
 r = r,
 l ≤ l,
 g = g ∧ plainSh tSh = true ∨ ∀ (i : Nat), i < l → rowOb tSh 0 (g i) (g i),
 sl = sl,
 ge = ge,
 mk = mk,
 b = b,
 ep = ep,
 er = er,
 decide (avInt (g (0 + ii) 6) > b) = false,
 (0 + ii).blt l = true,
 (ii.blt n && decide (0 ≤ Int.ofNat ii)) = true,
 decide (Int.ofNat ii < Int.ofNat n) = true]) := by kernel_rfl
theorem szIn_3 (n l : Nat) (r : Bool) (g : Nat → Nat → AV) (sl ge : Int) (mk : Bool) (b ep er : Int) (cc : Option Nat) (ii : Nat) : roundB EM0 2000 szIL ((szIU n l r g sl ge mk b ep er cc).hp) [] (szIT n l r g sl ge mk b ep er cc ii) [Hint.b false] (szIS n l r g sl ge mk b ep er cc) =
 some (Ex.exit 0, [r = r,
 l ≤ l,
 g = g ∧ plainSh tSh = true ∨ ∀ (i : Nat), i < l → rowOb tSh 0 (g i) (g i),
 sl = sl,
 ge = ge,
 mk = mk,
 b = b,
 ep = ep,
 er = er,
 decide (Int.ofNat ii < Int.ofNat n) = false]) := by kernel_rfl
theorem szIi_1 (n l : Nat) (r : Bool) (g : Nat → Nat → AV) (sl ge : Int) (mk : Bool) (b ep er : Int) (cc : Option Nat) : castSt ((szIU n l r g sl ge mk b ep er cc).hp) [] (szIU n l r g sl ge mk b ep er cc) (szIT n l r g sl ge mk b ep er cc 0) =
 some ([(0 : Nat) = 0,
 n = n,
 cc = cc,
 (0 : Nat) = 0,
 (0 : Nat) = 0,
 (0 : Nat) = 0,
 n = n,
 cc = cc,
 Int.ofNat n = Int.ofNat n,
 (0 : Int) = 0,
 r = r,
 l ≤ l,
 g = g ∧ plainSh tSh = true ∨ ∀ (i : Nat), i < l → rowOb tSh 0 (g i) (g i),
 sl = sl,
 ge = ge,
 mk = mk,
 b = b,
 ep = ep,
 er = er]) := by kernel_rfl
theorem szIcf_1 (n l : Nat) (r : Bool) (g : Nat → Nat → AV) (sl ge : Int) (mk : Bool) (b ep er : Int) (cc : Option Nat) (k : Nat) : callB EM0 2000 128 [AV.ss 10 1 0 n cc, AV.func (Fn.func 88) [] [AV.ptr 2 0 0]] (szIH n l r g sl ge mk b ep er cc) (szIR n l r g sl ge mk b ep er cc) [] [Hint.lp [0, 1, 6, 7, 8] Ex.ret (szIQ n l r g sl ge mk b ep er cc k).tmps (szIH n l r g sl ge mk b ep er cc) 3 []] =
 some ([Int.ofNat k = srch (szIP n l r g sl ge mk b ep er cc) n (fun i => Int.ofNat i) (-1),
 r = r,
 l ≤ l,
 g = g ∧ plainSh tSh = true ∨ ∀ (i : Nat), i < l → rowOb tSh 0 (g i) (g i),
 sl = sl,
 ge = ge,
 mk = mk,
 b = b,
 ep = ep,
 er = er,
 szILF n l r g sl ge mk b ep er cc k]) := by kernel_rfl
theorem szIcn_1 (n l : Nat) (r : Bool) (g : Nat → Nat → AV) (sl ge : Int) (mk : Bool) (b ep er : Int) (cc : Option Nat) : callB EM0 2000 128 [AV.ss 10 1 0 n cc, AV.func (Fn.func 88) [] [AV.ptr 2 0 0]] (szIH n l r g sl ge mk b ep er cc) (szIR n l r g sl ge mk b ep er cc) [] [Hint.lp [0, 1, 6, 7, 8] (Ex.exit 0) (szIS n l r g sl ge mk b ep er cc).tmps (szIH n l r g sl ge mk b ep er cc) 3 []] =
 some ([-1 = srch (szIP n l r g sl ge mk b ep er cc) n (fun i => Int.ofNat i) (-1),
 r = r,
 l ≤ l,
 g = g ∧ plainSh tSh = true ∨ ∀ (i : Nat), i < l → rowOb tSh 0 (g i) (g i),
 sl = sl,
 ge = ge,
 mk = mk,
 b = b,
 ep = ep,
 er = er,
 szILN n l r g sl ge mk b ep er cc]) := by kernel_rfl
theorem szI_lpf (n l : Nat) (r : Bool) (g : Nat → Nat → AV) (sl ge : Int) (mk : Bool) (b ep er : Int) (cc : Option Nat) (hl : n ≤ l) (hm : n ≤ 1000000) (k : Nat) (hk : k < n) (qk2 : szIP n l r g sl ge mk b ep er cc k = true) (qk3 : ∀ i, i < k → szIP n l r g sl ge mk b ep er cc i = false) : szILF n l r g sl ge mk b ep er cc k := by
  refine loop_rule EM0_ok (I := Nat) (fun i => szIT n l r g sl ge mk b ep er cc i) (fun i => k - i) (fun i => i ≤ k) ?_ (fun ii hi => ?_)
  ·
    refine ⟨0, [], _, Nat.zero_le _, szIi_1 .., (ob_cons rfl (ob_cons rfl (ob_cons rfl (ob_cons rfl (ob_cons rfl (ob_cons rfl (ob_cons rfl (ob_cons rfl (ob_cons rfl (ob_cons rfl (ob_cons rfl (ob_cons (Nat.le_refl _) (ob_cons (.inl ⟨rfl, rfl⟩) (ob_cons rfl (ob_cons rfl (ob_cons rfl (ob_cons rfl (ob_cons rfl (ob_cons rfl ob_nil)))))))))))))))))))⟩
  cases h1 : (decide (avInt (g (0 + ii) 6) > b)) with
  | true =>
    have g1 := of_decide_eq_true h1
    try simp only [Int.ofNat_eq_natCast, ge_iff_le, gt_iff_lt, Int.not_lt, Int.not_le] at g1
    have hpp : szIP n l r g sl ge mk b ep er cc ii = true := by (unfold szIP; (try rw [h1]); first | done | rfl | (simp; done) | (simp_all; done) | (simp_all [and2]; done))
    have hke : ii = k := by (rcases Nat.lt_or_ge ii k with q | q <;> first | (rw [qk3 ii q] at hpp; cases hpp) | omega)
    subst hke
    refine round_exit (s0 := szIU n l r g sl ge mk b ep er cc) (szIf_1 ..) (by simp) (ob_cons rfl (ob_cons rfl (ob_cons (Nat.le_refl _) (ob_cons (.inl ⟨rfl, rfl⟩) (ob_cons rfl (ob_cons rfl (ob_cons rfl (ob_cons rfl (ob_cons rfl (ob_cons rfl (ob_cons h1 (ob_cons ?_ (ob_cons ?_ (ob_cons ?_ ob_nil))))))))))))))
    ·
      first | (apply Nat.ble_eq_true_of_le; omega) | (simp [Nat.blt_eq]; omega) | (simp; omega)
    ·
      first | (apply Nat.ble_eq_true_of_le; omega) | (simp [Nat.blt_eq]; omega) | (simp; omega)
    ·
      first | (apply Nat.ble_eq_true_of_le; omega) | (simp [Nat.blt_eq]; omega) | (simp; omega)
  | false =>
    have g1 := of_decide_eq_false h1
    try simp only [Int.ofNat_eq_natCast, ge_iff_le, gt_iff_lt, Int.not_lt, Int.not_le] at g1
    have hpp : szIP n l r g sl ge mk b ep er cc ii = false := by (unfold szIP; (try rw [h1]); first | done | rfl | (simp; done) | (simp_all; done) | (simp_all [and2]; done))
    have hne : ii ≠ k := fun e => by (subst e; rw [qk2] at hpp; cases hpp)
    refine round_norm (s0 := szIU n l r g sl ge mk b ep er cc) (ii + 1) (szIf_2 ..) (ob_cons rfl (ob_cons rfl (ob_cons rfl (ob_cons rfl (ob_cons rfl (ob_cons rfl (ob_cons rfl (ob_cons rfl (ob_cons rfl (ob_cons ?_ (ob_cons rfl (ob_cons (Nat.le_refl _) (ob_cons (.inl ⟨rfl, rfl⟩) (ob_cons rfl (ob_cons rfl (ob_cons rfl (ob_cons rfl (ob_cons rfl (ob_cons rfl (ob_cons h1 (ob_cons ?_ (ob_cons ?_ (ob_cons ?_ ob_nil))))))))))))))))))))))) (by show ii + 1 ≤ k; omega) (by show k - (ii + 1) < k - ii; omega)
    ·
      first | exact wrap_nat64 _ (by simp; omega) (by simp; omega) | (simp; omega)
    ·
      first | (apply Nat.ble_eq_true_of_le; omega) | (simp [Nat.blt_eq]; omega) | (simp; omega)
    ·
      first | (apply Nat.ble_eq_true_of_le; omega) | (simp [Nat.blt_eq]; omega) | (simp; omega)
    ·
      first | (apply Nat.ble_eq_true_of_le; omega) | (simp [Nat.blt_eq]; omega) | (simp; omega)
theorem szI_lpn (n l : Nat) (r : Bool) (g : Nat → Nat → AV) (sl ge : Int) (mk : Bool) (b ep er : Int) (cc : Option Nat) (hl : n ≤ l) (hm : n ≤ 1000000) (qno : ∀ i, i < n → szIP n l r g sl ge mk b ep er cc i = false) : szILN n l r g sl ge mk b ep er cc := by
  refine loop_rule EM0_ok (I := Nat) (fun i => szIT n l r g sl ge mk b ep er cc i) (fun i => n - i) (fun i => i ≤ n) ?_ (fun ii hi => ?_)
  ·
    refine ⟨0, [], _, Nat.zero_le _, szIi_1 .., (ob_cons rfl (ob_cons rfl (ob_cons rfl (ob_cons rfl (ob_cons rfl (ob_cons rfl (ob_cons rfl (ob_cons rfl (ob_cons rfl (ob_cons rfl (ob_cons rfl (ob_cons (Nat.le_refl _) (ob_cons (.inl ⟨rfl, rfl⟩) (ob_cons rfl (ob_cons rfl (ob_cons rfl (ob_cons rfl (ob_cons rfl (ob_cons rfl ob_nil)))))))))))))))))))⟩
  cases h1 : (decide (Int.ofNat ii < Int.ofNat n)) with
  | true =>
    have g1 := of_decide_eq_true h1
    try simp only [Int.ofNat_eq_natCast, ge_iff_le, gt_iff_lt, Int.not_lt, Int.not_le] at g1
    refine round_norm (s0 := szIU n l r g sl ge mk b ep er cc) (ii + 1) (szIn_2 ..) (ob_cons rfl (ob_cons rfl (ob_cons rfl (ob_cons rfl (ob_cons rfl (ob_cons rfl (ob_cons rfl (ob_cons rfl (ob_cons rfl (ob_cons ?_ (ob_cons rfl (ob_cons (Nat.le_refl _) (ob_cons (.inl ⟨rfl, rfl⟩) (ob_cons rfl (ob_cons rfl (ob_cons rfl (ob_cons rfl (ob_cons rfl (ob_cons rfl (ob_cons ?_ (ob_cons ?_ (ob_cons ?_ (ob_cons h1 ob_nil))))))))))))))))))))))) (by show ii + 1 ≤ n; omega) (by show n - (ii + 1) < n - ii; omega)
    ·
      first | exact wrap_nat64 _ (by simp; omega) (by simp; omega) | (simp; omega) | (have q := qno ii (by omega); unfold szIP at q; (try simp only [h1] at q); (try simp [and2] at q); (try simp); first | exact q | omega | (simp_all; done))
    ·
      first | (apply Nat.ble_eq_true_of_le; omega) | (simp [Nat.blt_eq]; omega) | (simp; omega) | (have q := qno ii (by omega); unfold szIP at q; (try simp only [h1] at q); (try simp [and2] at q); (try simp); first | exact q | omega | (simp_all; done))
    ·
      first | (apply Nat.ble_eq_true_of_le; omega) | (simp [Nat.blt_eq]; omega) | (simp; omega) | (have q := qno ii (by omega); unfold szIP at q; (try simp only [h1] at q); (try simp [and2] at q); (try simp); first | exact q | omega | (simp_all; done))
    ·
      first | (apply Nat.ble_eq_true_of_le; omega) | (simp [Nat.blt_eq]; omega) | (simp; omega) | (have q := qno ii (by omega); unfold szIP at q; (try simp only [h1] at q); (try simp [and2] at q); (try simp); first | exact q | omega | (simp_all; done))
  | false =>
    have g1 := of_decide_eq_false h1
    try simp only [Int.ofNat_eq_natCast, ge_iff_le, gt_iff_lt, Int.not_lt, Int.not_le] at g1
    refine round_exit (s0 := szIU n l r g sl ge mk b ep er cc) (szIn_3 ..) (by simp) (ob_cons rfl (ob_cons (Nat.le_refl _) (ob_cons (.inl ⟨rfl, rfl⟩) (ob_cons rfl (ob_cons rfl (ob_cons rfl (ob_cons rfl (ob_cons rfl (ob_cons rfl (ob_cons h1 ob_nil))))))))))
theorem szI_loc (n l : Nat) (r : Bool) (g : Nat → Nat → AV) (sl ge : Int) (mk : Bool) (b ep er : Int) (cc : Option Nat) : LocOk Try.prog 128 [.ss 10 1 0 n cc, .func (.func 88) [] [.ptr 2 0 0]] (szIH n l r g sl ge mk b ep er cc) (szIR n l r g sl ge mk b ep er cc) := by
  refine loc_of_call EM0_ok (fun hp => ?_)
  have hl : n ≤ l := hp _ (List.mem_cons_self ..)
  have hm : n ≤ 1000000 := hp _ (List.mem_cons_of_mem _ (List.mem_cons_self ..))
  clear hp
  rcases first_true (szIP n l r g sl ge mk b ep er cc) (n) with qno | ⟨k, hk, qk2, qk3⟩
  · have hln := szI_lpn n l r g sl ge mk b ep er cc hl hm qno
    refine ⟨2000, _, _, _, szIcn_1 .., (ob_cons ?_ (ob_cons rfl (ob_cons (Nat.le_refl _) (ob_cons (.inl ⟨rfl, rfl⟩) (ob_cons rfl (ob_cons rfl (ob_cons rfl (ob_cons rfl (ob_cons rfl (ob_cons rfl (ob_cons ?_ ob_nil)))))))))))⟩
    ·
      first | rfl | exact hln | (simp only [srch_no qno, srchB_no qno]; done) | (rw [srch_no qno]; done)
    ·
      first | trivial | exact hln | (simp only [srch_no qno, srchB_no qno]; done) | (rw [srch_no qno]; done)
  · have hlf := szI_lpf n l r g sl ge mk b ep er cc hl hm k hk qk2 qk3
    refine ⟨2000, _, _, _, szIcf_1 n l r g sl ge mk b ep er cc k, (ob_cons ?_ (ob_cons rfl (ob_cons (Nat.le_refl _) (ob_cons (.inl ⟨rfl, rfl⟩) (ob_cons rfl (ob_cons rfl (ob_cons rfl (ob_cons rfl (ob_cons rfl (ob_cons rfl (ob_cons ?_ ob_nil)))))))))))⟩
    ·
      first | rfl | exact hlf | (simp only [srch_at hk qk2 qk3, srchB_at hk qk2 qk3]; done) | (rw [srch_at hk qk2 qk3]; done)
    ·
      first | trivial | exact hlf | (simp only [srch_at hk qk2 qk3, srchB_at hk qk2 qk3]; done) | (rw [srch_at hk qk2 qk3]; done)
noncomputable def szISpec : LSpec := fun la lh => match la, lh with
  | [.ss z1 z2 z3 n cc, .func (.func z4) [] [.ptr z5 z6 z7]], [(z8, .arr z9 z10 r l g), (z11, .cells z12 [.sym .i64 sl, .sym .u32 ge, .symb mk, .sym .u64 b, .sym .u64 ep, .sym .u64 er])] =>
    match Nat.beq z1 10 && (Nat.beq z2 1 && (Nat.beq z3 0 && (Nat.beq z4 88 && (Nat.beq z5 2 && (Nat.beq z6 0 && (Nat.beq z7 0 && (Nat.beq z8 1 && (Nat.beq z9 10 && (shBeq z10 tSh && (Nat.beq z11 2 && (Nat.beq z12 6))))))))))) with
    | true => some (szIR n l r g sl ge mk b ep er cc)
    | false => none
  | _, _ => none
theorem szISpec_ok (la : List AV) (lh : List (Nat × AO)) (R : LR) (h : szISpec la lh = some R) : LocOk Try.prog 128 la lh R := by
  unfold szISpec at h
  split at h
  · rename_i z1 z2 z3 n cc z4 z5 z6 z7 z8 z9 z10 r l g z11 z12 sl ge mk b ep er
    split at h
    · rename_i hb
      simp only [Bool.and_eq_true] at hb
      obtain ⟨e1, e2, e3, e4, e5, e6, e7, e8, e9, e10, e11, e12⟩ := hb
      have e1 := Nat.eq_of_beq_eq_true e1; subst e1
      have e2 := Nat.eq_of_beq_eq_true e2; subst e2
      have e3 := Nat.eq_of_beq_eq_true e3; subst e3
      have e4 := Nat.eq_of_beq_eq_true e4; subst e4
      have e5 := Nat.eq_of_beq_eq_true e5; subst e5
      have e6 := Nat.eq_of_beq_eq_true e6; subst e6
      have e7 := Nat.eq_of_beq_eq_true e7; subst e7
      have e8 := Nat.eq_of_beq_eq_true e8; subst e8
      have e9 := Nat.eq_of_beq_eq_true e9; subst e9
      have e10 := shBeq_eq e10; subst e10
      have e11 := Nat.eq_of_beq_eq_true e11; subst e11
      have e12 := Nat.eq_of_beq_eq_true e12; subst e12
      cases h
      exact szI_loc n l r g sl ge mk b ep er cc
    · cases h
  · cases h

end Go.Proofs.Ytephpkfajobhmaa
