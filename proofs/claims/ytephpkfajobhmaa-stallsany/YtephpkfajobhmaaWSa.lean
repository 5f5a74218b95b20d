/-
  Stalls: Pins, Flagged.
-/
import Derived.Test.YtephpkfajobhmaaWSaDef
set_option linter.unusedSimpArgs false
set_option linter.unusedVariables false
namespace Go.Proofs.Ytephpkfajobhmaa
open Go.Ev
theorem saIf_1 (n l : Nat) (r : Bool) (g : Nat → Nat → AV) (sl ge : Int) (mk : Bool) (b ep er : Int) (ii : Nat) : roundB EM0 2000 saIL ((saIU n l r g sl ge mk b ep er).hp) [] (saIT n l r g sl ge mk b ep er ii) [Hint.b true, Hint.b true] (saIQ n l r g sl ge mk b ep er ii) =
 some (Ex.ret, [Int.ofNat ii = Int.ofNat ii,
 r = r,
 l ≤ l,
 g = g ∧ plainSh tSh = true ∨ ∀ (i : Nat), i < l → rowOb tSh 0 (g i) (g i),
 sl = sl,
 ge = ge,
 mk = mk,
 b = b,
 ep = ep,
 er = er,
 decide (avInt (g (0 + ii) 6) > b) = true,
 (0 + ii).blt l = true,
 (ii.blt n && decide (0 ≤ Int.ofNat ii)) = true,
 decide (Int.ofNat ii < Int.ofNat n) = true]) := by kernel_rfl
theorem saIf_2 (n l : Nat) (r : Bool) (g : Nat → Nat → AV) (sl ge : Int) (mk : Bool) (b ep er : Int) (ii : Nat) : roundB EM0 2000 saIL ((saIU n l r g sl ge mk b ep er).hp) [] (saIT n l r g sl ge mk b ep er ii) [Hint.b true, Hint.b false] (saIT n l r g sl ge mk b ep er (ii + 1)) =
 some (Ex.norm, [(0 : Nat) = 0,
 n = n,
 (none : Option Nat) = none,
 (0 : Nat) = 0,
 (0 : Nat) = 0,
 (0 : Nat) = 0,
 n = n,
 (none : Option Nat) = none,
 Int.ofNat n = Int.ofNat n,
 IntKind.i64.wrap (Int.ofNat ii + 1) = Int.ofNat (ii + 1),
 r = r,
 l ≤ l,
 g = g ∧ plainSh tSh = true ∨ ∀ (i : Nat), i < l → rowOb tSh 0 (g i) (g i),
 sl = sl,
 ge = ge,
 mk = mk,
 b = b,
 ep = ep,
 er = er,
 decide (avInt (g (0 + ii) 6) > b) = false,
 (0 + ii).blt l = true,
 (ii.blt n && decide (0 ≤ Int.ofNat ii)) = true,
 decide (Int.ofNat ii < Int.ofNat n) = true]) := by kernel_rfl
theorem saIn_2 (n l : Nat) (r : Bool) (g : Nat → Nat → AV) (sl ge : Int) (mk : Bool) (b ep er : Int) (ii : Nat) : roundB EM0 2000 saIL ((saIU n l r g sl ge mk b ep er).hp) [] (saIT n l r g sl ge mk b ep er ii) [Hint.b true, Hint.b false] (saIT n l r g sl ge mk b ep er (ii + 1)) =
 some (Ex.norm, [(0 : Nat) = 0,
 n = n,
 (none : Option Nat) = none,
 (0 : Nat) = 0,
 (0 : Nat) = 0,
 (0 : Nat) = 0,
 n = n,
 (none : Option Nat) = none,
 Int.ofNat n = Int.ofNat n,
 IntKind.i64.wrap (Int.ofNat ii + 1) = Int.ofNat (ii + 1),
 r = r,
 l ≤ l,
 g = g ∧ plainSh tSh = true ∨ ∀ (i : Nat), i < l → rowOb tSh 0 (g i) (g i),
 sl = sl,
 ge = ge,
 mk = mk,
 b = b,
 ep = ep,
 er = er,
 decide (avInt (g (0 + ii) 6) > b) = false,
 (0 + ii).blt l = true,
 (ii.blt n && decide (0 ≤ Int.ofNat ii)) = true,
 decide (Int.ofNat ii < Int.ofNat n) = true]) := by kernel_rfl
theorem saIn_3 (n l : Nat) (r : Bool) (g : Nat → Nat → AV) (sl ge : Int) (mk : Bool) (b ep er : Int) (ii : Nat) : roundB EM0 2000 saIL ((saIU n l r g sl ge mk b ep er).hp) [] (saIT n l r g sl ge mk b ep er ii) [Hint.b false] (saIS n l r g sl ge mk b ep er) =
 some (Ex.exit 0, [r = r,
 l ≤ l,
 g = g ∧ plainSh tSh = true ∨ ∀ (i : Nat), i < l → rowOb tSh 0 (g i) (g i),
 sl = sl,
 ge = ge,
 mk = mk,
 b = b,
 ep = ep,
 er = er,
 decide (Int.ofNat ii < Int.ofNat n) = false]) := by kernel_rfl
theorem saIi_1 (n l : Nat) (r : Bool) (g : Nat → Nat → AV) (sl ge : Int) (mk : Bool) (b ep er : Int) : castSt ((saIU n l r g sl ge mk b ep er).hp) [] (saIU n l r g sl ge mk b ep er) (saIT n l r g sl ge mk b ep er 0) =
 some ([(0 : Nat) = 0,
 n = n,
 (none : Option Nat) = none,
 (0 : Nat) = 0,
 (0 : Nat) = 0,
 (0 : Nat) = 0,
 n = n,
 (none : Option Nat) = none,
 Int.ofNat n = Int.ofNat n,
 (0 : Int) = 0,
 r = r,
 l ≤ l,
 g = g ∧ plainSh tSh = true ∨ ∀ (i : Nat), i < l → rowOb tSh 0 (g i) (g i),
 sl = sl,
 ge = ge,
 mk = mk,
 b = b,
 ep = ep,
 er = er]) := by kernel_rfl
theorem saIcf_1 (n l : Nat) (r : Bool) (g : Nat → Nat → AV) (sl ge : Int) (mk : Bool) (b ep er : Int) (k : Nat) : callB EM0 2000 128 [AV.ss 10 1 0 n none, AV.func (Fn.func 88) [] [AV.ptr 2 0 0]] (saIH n l r g sl ge mk b ep er) (saIR n l r g sl ge mk b ep er) [] [Hint.lp [0, 1, 6, 7, 8] Ex.ret (saIQ n l r g sl ge mk b ep er k).tmps (saIH n l r g sl ge mk b ep er) 3 []] =
 some ([Int.ofNat k = srch (saIP n l r g sl ge mk b ep er) n (fun i => Int.ofNat i) (-1),
 r = r,
 l ≤ l,
 g = g ∧ plainSh tSh = true ∨ ∀ (i : Nat), i < l → rowOb tSh 0 (g i) (g i),
 sl = sl,
 ge = ge,
 mk = mk,
 b = b,
 ep = ep,
 er = er,
 saILF n l r g sl ge mk b ep er k]) := by kernel_rfl
theorem saIcn_1 (n l : Nat) (r : Bool) (g : Nat → Nat → AV) (sl ge : Int) (mk : Bool) (b ep er : Int) : callB EM0 2000 128 [AV.ss 10 1 0 n none, AV.func (Fn.func 88) [] [AV.ptr 2 0 0]] (saIH n l r g sl ge mk b ep er) (saIR n l r g sl ge mk b ep er) [] [Hint.lp [0, 1, 6, 7, 8] (Ex.exit 0) (saIS n l r g sl ge mk b ep er).tmps (saIH n l r g sl ge mk b ep er) 3 []] =
 some ([-1 = srch (saIP n l r g sl ge mk b ep er) n (fun i => Int.ofNat i) (-1),
 r = r,
 l ≤ l,
 g = g ∧ plainSh tSh = true ∨ ∀ (i : Nat), i < l → rowOb tSh 0 (g i) (g i),
 sl = sl,
 ge = ge,
 mk = mk,
 b = b,
 ep = ep,
 er = er,
 saILN n l r g sl ge mk b ep er]) := by kernel_rfl
theorem saI_lpf (n l : Nat) (r : Bool) (g : Nat → Nat → AV) (sl ge : Int) (mk : Bool) (b ep er : Int) (hl : n ≤ l) (hm : n ≤ 1000000) (k : Nat) (hk : k < n) (qk2 : saIP n l r g sl ge mk b ep er k = true) (qk3 : ∀ i, i < k → saIP n l r g sl ge mk b ep er i = false) : saILF n l r g sl ge mk b ep er k := by
  refine loop_rule EM0_ok (I := Nat) (fun i => saIT n l r g sl ge mk b ep er i) (fun i => k - i) (fun i => i ≤ k) ?_ (fun ii hi => ?_)
  ·
    refine ⟨0, [], _, Nat.zero_le _, saIi_1 .., (ob_cons rfl (ob_cons rfl (ob_cons rfl (ob_cons rfl (ob_cons rfl (ob_cons rfl (ob_cons rfl (ob_cons rfl (ob_cons rfl (ob_cons rfl (ob_cons rfl (ob_cons (Nat.le_refl _) (ob_cons (.inl ⟨rfl, rfl⟩) (ob_cons rfl (ob_cons rfl (ob_cons rfl (ob_cons rfl (ob_cons rfl (ob_cons rfl ob_nil)))))))))))))))))))⟩
  cases h1 : (decide (avInt (g (0 + ii) 6) > b)) with
  | true =>
    have g1 := of_decide_eq_true h1
    try simp only [Int.ofNat_eq_natCast, ge_iff_le, gt_iff_lt, Int.not_lt, Int.not_le] at g1
    have hpp : saIP n l r g sl ge mk b ep er ii = true := by (unfold saIP; (try rw [h1]); first | done | rfl | (simp; done) | (simp_all; done) | (simp_all [and2]; done))
    have hke : ii = k := by (rcases Nat.lt_or_ge ii k with q | q <;> first | (rw [qk3 ii q] at hpp; cases hpp) | omega)
    subst hke
    refine round_exit (s0 := saIU n l r g sl ge mk b ep er) (saIf_1 ..) (by simp) (ob_cons rfl (ob_cons rfl (ob_cons (Nat.le_refl _) (ob_cons (.inl ⟨rfl, rfl⟩) (ob_cons rfl (ob_cons rfl (ob_cons rfl (ob_cons rfl (ob_cons rfl (ob_cons rfl (ob_cons h1 (ob_cons ?_ (ob_cons ?_ (ob_cons ?_ ob_nil))))))))))))))
    ·
      first | (apply Nat.ble_eq_true_of_le; omega) | (simp [Nat.blt_eq]; omega) | (simp; omega)
    ·
      first | (apply Nat.ble_eq_true_of_le; omega) | (simp [Nat.blt_eq]; omega) | (simp; omega)
    ·
      first | (apply Nat.ble_eq_true_of_le; omega) | (simp [Nat.blt_eq]; omega) | (simp; omega)
  | false =>
    have g1 := of_decide_eq_false h1
    try simp only [Int.ofNat_eq_natCast, ge_iff_le, gt_iff_lt, Int.not_lt, Int.not_le] at g1
    have hpp : saIP n l r g sl ge mk b ep er ii = false := by (unfold saIP; (try rw [h1]); first | done | rfl | (simp; done) | (simp_all; done) | (simp_all [and2]; done))
    have hne : ii ≠ k := fun e => by (subst e; rw [qk2] at hpp; cases hpp)
    refine round_norm (s0 := saIU n l r g sl ge mk b ep er) (ii + 1) (saIf_2 ..) (ob_cons rfl (ob_cons rfl (ob_cons rfl (ob_cons rfl (ob_cons rfl (ob_cons rfl (ob_cons rfl (ob_cons rfl (ob_cons rfl (ob_cons ?_ (ob_cons rfl (ob_cons (Nat.le_refl _) (ob_cons (.inl ⟨rfl, rfl⟩) (ob_cons rfl (ob_cons rfl (ob_cons rfl (ob_cons rfl (ob_cons rfl (ob_cons rfl (ob_cons h1 (ob_cons ?_ (ob_cons ?_ (ob_cons ?_ ob_nil))))))))))))))))))))))) (by show ii + 1 ≤ k; omega) (by show k - (ii + 1) < k - ii; omega)
    ·
      first | exact wrap_nat64 _ (by simp; omega) (by simp; omega) | (simp; omega)
    ·
      first | (apply Nat.ble_eq_true_of_le; omega) | (simp [Nat.blt_eq]; omega) | (simp; omega)
    ·
      first | (apply Nat.ble_eq_true_of_le; omega) | (simp [Nat.blt_eq]; omega) | (simp; omega)
    ·
      first | (apply Nat.ble_eq_true_of_le; omega) | (simp [Nat.blt_eq]; omega) | (simp; omega)
theorem saI_lpn (n l : Nat) (r : Bool) (g : Nat → Nat → AV) (sl ge : Int) (mk : Bool) (b ep er : Int) (hl : n ≤ l) (hm : n ≤ 1000000) (qno : ∀ i, i < n → saIP n l r g sl ge mk b ep er i = false) : saILN n l r g sl ge mk b ep er := by
  refine loop_rule EM0_ok (I := Nat) (fun i => saIT n l r g sl ge mk b ep er i) (fun i => n - i) (fun i => i ≤ n) ?_ (fun ii hi => ?_)
  ·
    refine ⟨0, [], _, Nat.zero_le _, saIi_1 .., (ob_cons rfl (ob_cons rfl (ob_cons rfl (ob_cons rfl (ob_cons rfl (ob_cons rfl (ob_cons rfl (ob_cons rfl (ob_cons rfl (ob_cons rfl (ob_cons rfl (ob_cons (Nat.le_refl _) (ob_cons (.inl ⟨rfl, rfl⟩) (ob_cons rfl (ob_cons rfl (ob_cons rfl (ob_cons rfl (ob_cons rfl (ob_cons rfl ob_nil)))))))))))))))))))⟩
  cases h1 : (decide (Int.ofNat ii < Int.ofNat n)) with
  | true =>
    have g1 := of_decide_eq_true h1
    try simp only [Int.ofNat_eq_natCast, ge_iff_le, gt_iff_lt, Int.not_lt, Int.not_le] at g1
    refine round_norm (s0 := saIU n l r g sl ge mk b ep er) (ii + 1) (saIn_2 ..) (ob_cons rfl (ob_cons rfl (ob_cons rfl (ob_cons rfl (ob_cons rfl (ob_cons rfl (ob_cons rfl (ob_cons rfl (ob_cons rfl (ob_cons ?_ (ob_cons rfl (ob_cons (Nat.le_refl _) (ob_cons (.inl ⟨rfl, rfl⟩) (ob_cons rfl (ob_cons rfl (ob_cons rfl (ob_cons rfl (ob_cons rfl (ob_cons rfl (ob_cons ?_ (ob_cons ?_ (ob_cons ?_ (ob_cons h1 ob_nil))))))))))))))))))))))) (by show ii + 1 ≤ n; omega) (by show n - (ii + 1) < n - ii; omega)
    ·
      first | exact wrap_nat64 _ (by simp; omega) (by simp; omega) | (simp; omega) | (have q := qno ii (by omega); unfold saIP at q; (try simp only [h1] at q); (try simp [and2] at q); (try simp); first | exact q | omega | (simp_all; done))
    ·
      first | (apply Nat.ble_eq_true_of_le; omega) | (simp [Nat.blt_eq]; omega) | (simp; omega) | (have q := qno ii (by omega); unfold saIP at q; (try simp only [h1] at q); (try simp [and2] at q); (try simp); first | exact q | omega | (simp_all; done))
    ·
      first | (apply Nat.ble_eq_true_of_le; omega) | (simp [Nat.blt_eq]; omega) | (simp; omega) | (have q := qno ii (by omega); unfold saIP at q; (try simp only [h1] at q); (try simp [and2] at q); (try simp); first | exact q | omega | (simp_all; done))
    ·
      first | (apply Nat.ble_eq_true_of_le; omega) | (simp [Nat.blt_eq]; omega) | (simp; omega) | (have q := qno ii (by omega); unfold saIP at q; (try simp only [h1] at q); (try simp [and2] at q); (try simp); first | exact q | omega | (simp_all; done))
  | false =>
    have g1 := of_decide_eq_false h1
    try simp only [Int.ofNat_eq_natCast, ge_iff_le, gt_iff_lt, Int.not_lt, Int.not_le] at g1
    refine round_exit (s0 := saIU n l r g sl ge mk b ep er) (saIn_3 ..) (by simp) (ob_cons rfl (ob_cons (Nat.le_refl _) (ob_cons (.inl ⟨rfl, rfl⟩) (ob_cons rfl (ob_cons rfl (ob_cons rfl (ob_cons rfl (ob_cons rfl (ob_cons rfl (ob_cons h1 ob_nil))))))))))
theorem saI_loc (n l : Nat) (r : Bool) (g : Nat → Nat → AV) (sl ge : Int) (mk : Bool) (b ep er : Int) : LocOk Try.prog 128 [.ss 10 1 0 n none, .func (.func 88) [] [.ptr 2 0 0]] (saIH n l r g sl ge mk b ep er) (saIR n l r g sl ge mk b ep er) := by
  refine loc_of_call EM0_ok (fun hp => ?_)
  have hl : n ≤ l := hp _ (List.mem_cons_self ..)
  have hm : n ≤ 1000000 := hp _ (List.mem_cons_of_mem _ (List.mem_cons_self ..))
  clear hp
  rcases first_true (saIP n l r g sl ge mk b ep er) (n) with qno | ⟨k, hk, qk2, qk3⟩
  · have hln := saI_lpn n l r g sl ge mk b ep er hl hm qno
    refine ⟨2000, _, _, _, saIcn_1 .., (ob_cons ?_ (ob_cons rfl (ob_cons (Nat.le_refl _) (ob_cons (.inl ⟨rfl, rfl⟩) (ob_cons rfl (ob_cons rfl (ob_cons rfl (ob_cons rfl (ob_cons rfl (ob_cons rfl (ob_cons ?_ ob_nil)))))))))))⟩
    ·
      first | rfl | exact hln | (simp only [srch_no qno, srchB_no qno]; done) | (rw [srch_no qno]; done)
    ·
      first | trivial | exact hln | (simp only [srch_no qno, srchB_no qno]; done) | (rw [srch_no qno]; done)
  · have hlf := saI_lpf n l r g sl ge mk b ep er hl hm k hk qk2 qk3
    refine ⟨2000, _, _, _, saIcf_1 n l r g sl ge mk b ep er k, (ob_cons ?_ (ob_cons rfl (ob_cons (Nat.le_refl _) (ob_cons (.inl ⟨rfl, rfl⟩) (ob_cons rfl (ob_cons rfl (ob_cons rfl (ob_cons rfl (ob_cons rfl (ob_cons rfl (ob_cons ?_ ob_nil)))))))))))⟩
    ·
      first | rfl | exact hlf | (simp only [srch_at hk qk2 qk3, srchB_at hk qk2 qk3]; done) | (rw [srch_at hk qk2 qk3]; done)
    ·
      first | trivial | exact hlf | (simp only [srch_at hk qk2 qk3, srchB_at hk qk2 qk3]; done) | (rw [srch_at hk qk2 qk3]; done)
noncomputable def saISpec : LSpec := fun la lh => match la, lh with
  | [.ss z1 z2 z3 n none, .func (.func z4) [] [.ptr z5 z6 z7]], [(z8, .arr z9 z10 r l g), (z11, .cells z12 [.sym .i64 sl, .sym .u32 ge, .symb mk, .sym .u64 b, .sym .u64 ep, .sym .u64 er])] =>
    match Nat.beq z1 10 && (Nat.beq z2 1 && (Nat.beq z3 0 && (Nat.beq z4 88 && (Nat.beq z5 2 && (Nat.beq z6 0 && (Nat.beq z7 0 && (Nat.beq z8 1 && (Nat.beq z9 10 && (shBeq z10 tSh && (Nat.beq z11 2 && (Nat.beq z12 6))))))))))) with
    | true => some (saIR n l r g sl ge mk b ep er)
    | false => none
  | _, _ => none
theorem saISpec_ok (la : List AV) (lh : List (Nat × AO)) (R : LR) (h : saISpec la lh = some R) : LocOk Try.prog 128 la lh R := by
  unfold saISpec at h
  split at h
  · rename_i z1 z2 z3 n z4 z5 z6 z7 z8 z9 z10 r l g z11 z12 sl ge mk b ep er
    split at h
    · rename_i hb
      simp only [Bool.and_eq_true] at hb
      obtain ⟨e1, e2, e3, e4, e5, e6, e7, e8, e9, e10, e11, e12⟩ := hb
      have e1 := Nat.eq_of_beq_eq_true e1; subst e1
      have e2 := Nat.eq_of_beq_eq_true e2; subst e2
      have e3 := Nat.eq_of_beq_eq_true e3; subst e3
      have e4 := Nat.eq_of_beq_eq_true e4; subst e4
      have e5 := Nat.eq_of_beq_eq_true e5; subst e5
      have e6 := Nat.eq_of_beq_eq_true e6; subst e6
      have e7 := Nat.eq_of_beq_eq_true e7; subst e7
      have e8 := Nat.eq_of_beq_eq_true e8; subst e8
      have e9 := Nat.eq_of_beq_eq_true e9; subst e9
      have e10 := shBeq_eq e10; subst e10
      have e11 := Nat.eq_of_beq_eq_true e11; subst e11
      have e12 := Nat.eq_of_beq_eq_true e12; subst e12
      cases h
      exact saI_loc n l r g sl ge mk b ep er
    · cases h
  · cases h

theorem saPf_1 (n l : Nat) (r : Bool) (g : Nat → Nat → AV) (sl ge : Int) (mk : Bool) (b ep er : Int) (ew : Int) (ii : Nat) : roundB EM0 2000 saPL ((saPU n l r g sl ge mk b ep er ew).hp) [] (saPT n l r g sl ge mk b ep er ew ii) [Hint.b true, Hint.node [], Hint.b true] (saPQ n l r g sl ge mk b ep er ew ii) =
 some (Ex.ret, [(0 : Nat) = 0,
 n = n,
 (none : Option Nat) = none,
 ew = ew,
 sl = sl,
 ge = ge,
 mk = mk,
 b = b,
 ep = ep,
 er = er,
 r = r,
 l ≤ l,
 g = g ∧ plainSh tSh = true ∨ ∀ (i : Nat), i < l → rowOb tSh 0 (g i) (g i),
 decide (b < avInt (g (0 + ii) 6)) = true,
 (0 + ii).blt l = true,
 (ii.blt n && decide (0 ≤ Int.ofNat ii)) = true,
 decide (Int.ofNat ii < Int.ofNat n) = true]) := by kernel_rfl
theorem saPf_2 (n l : Nat) (r : Bool) (g : Nat → Nat → AV) (sl ge : Int) (mk : Bool) (b ep er : Int) (ew : Int) (ii : Nat) : roundB EM0 2000 saPL ((saPU n l r g sl ge mk b ep er ew).hp) [] (saPT n l r g sl ge mk b ep er ew ii) [Hint.b true, Hint.node [], Hint.b false] (saPT n l r g sl ge mk b ep er ew (ii + 1)) =
 some (Ex.norm, [(0 : Nat) = 0,
 (0 : Nat) = 0,
 (0 : Nat) = 0,
 (0 : Nat) = 0,
 IntKind.i64.wrap (Int.ofNat ii + 1) = Int.ofNat (ii + 1),
 (0 : Nat) = 0,
 n = n,
 (none : Option Nat) = none,
 ew = ew,
 sl = sl,
 ge = ge,
 mk = mk,
 b = b,
 ep = ep,
 er = er,
 r = r,
 l ≤ l,
 g = g ∧ plainSh tSh = true ∨ ∀ (i : Nat), i < l → rowOb tSh 0 (g i) (g i),
 decide (b < avInt (g (0 + ii) 6)) = false,
 (0 + ii).blt l = true,
 (ii.blt n && decide (0 ≤ Int.ofNat ii)) = true,
 decide (Int.ofNat ii < Int.ofNat n) = true]) := by kernel_rfl
theorem saPn_2 (n l : Nat) (r : Bool) (g : Nat → Nat → AV) (sl ge : Int) (mk : Bool) (b ep er : Int) (ew : Int) (ii : Nat) : roundB EM0 2000 saPL ((saPU n l r g sl ge mk b ep er ew).hp) [] (saPT n l r g sl ge mk b ep er ew ii) [Hint.b true, Hint.node [], Hint.b false] (saPT n l r g sl ge mk b ep er ew (ii + 1)) =
 some (Ex.norm, [(0 : Nat) = 0,
 (0 : Nat) = 0,
 (0 : Nat) = 0,
 (0 : Nat) = 0,
 IntKind.i64.wrap (Int.ofNat ii + 1) = Int.ofNat (ii + 1),
 (0 : Nat) = 0,
 n = n,
 (none : Option Nat) = none,
 ew = ew,
 sl = sl,
 ge = ge,
 mk = mk,
 b = b,
 ep = ep,
 er = er,
 r = r,
 l ≤ l,
 g = g ∧ plainSh tSh = true ∨ ∀ (i : Nat), i < l → rowOb tSh 0 (g i) (g i),
 decide (b < avInt (g (0 + ii) 6)) = false,
 (0 + ii).blt l = true,
 (ii.blt n && decide (0 ≤ Int.ofNat ii)) = true,
 decide (Int.ofNat ii < Int.ofNat n) = true]) := by kernel_rfl
theorem saPn_3 (n l : Nat) (r : Bool) (g : Nat → Nat → AV) (sl ge : Int) (mk : Bool) (b ep er : Int) (ew : Int) (ii : Nat) : roundB EM0 2000 saPL ((saPU n l r g sl ge mk b ep er ew).hp) [] (saPT n l r g sl ge mk b ep er ew ii) [Hint.b false] (saPS n l r g sl ge mk b ep er ew) =
 some (Ex.exit 0, [(0 : Nat) = 0,
 n = n,
 (none : Option Nat) = none,
 ew = ew,
 sl = sl,
 ge = ge,
 mk = mk,
 b = b,
 ep = ep,
 er = er,
 r = r,
 l ≤ l,
 g = g ∧ plainSh tSh = true ∨ ∀ (i : Nat), i < l → rowOb tSh 0 (g i) (g i),
 decide (Int.ofNat ii < Int.ofNat n) = false]) := by kernel_rfl
theorem saPi_1 (n l : Nat) (r : Bool) (g : Nat → Nat → AV) (sl ge : Int) (mk : Bool) (b ep er : Int) (ew : Int) : castSt ((saPU n l r g sl ge mk b ep er ew).hp) [] (saPU n l r g sl ge mk b ep er ew) (saPT n l r g sl ge mk b ep er ew 0) =
 some ([(0 : Nat) = 0,
 (0 : Nat) = 0,
 (0 : Nat) = 0,
 (0 : Nat) = 0,
 (0 : Int) = 0,
 (0 : Nat) = 0,
 n = n,
 (none : Option Nat) = none,
 ew = ew,
 sl = sl,
 ge = ge,
 mk = mk,
 b = b,
 ep = ep,
 er = er,
 r = r,
 l ≤ l,
 g = g ∧ plainSh tSh = true ∨ ∀ (i : Nat), i < l → rowOb tSh 0 (g i) (g i)]) := by kernel_rfl
theorem saPcf_1 (n l : Nat) (r : Bool) (g : Nat → Nat → AV) (sl ge : Int) (mk : Bool) (b ep er : Int) (ew : Int) (k : Nat) : callB EM0 2000 38 [AV.agg [AV.sym IntKind.i64 sl, AV.sym IntKind.u32 ge, AV.symb mk, AV.sym IntKind.u64 b, AV.sym IntKind.u64 ep, AV.sym IntKind.u64 er], AV.agg [AV.ss 10 1 0 n none, AV.sym IntKind.u64 ew]] (saPH n l r g sl ge mk b ep er ew) (saPR n l r g sl ge mk b ep er ew) [] [Hint.lp [2, 3, 5] Ex.ret (saPQ n l r g sl ge mk b ep er ew k).tmps (saPE n l r g sl ge mk b ep er ew) 4 []] =
 some ([true = srchB (saPP n l r g sl ge mk b ep er ew) n,
 r = r,
 l ≤ l,
 g = g ∧ plainSh tSh = true ∨ ∀ (i : Nat), i < l → rowOb tSh 0 (g i) (g i),
 saPLF n l r g sl ge mk b ep er ew k]) := by kernel_rfl
theorem saPcn_1 (n l : Nat) (r : Bool) (g : Nat → Nat → AV) (sl ge : Int) (mk : Bool) (b ep er : Int) (ew : Int) : callB EM0 2000 38 [AV.agg [AV.sym IntKind.i64 sl, AV.sym IntKind.u32 ge, AV.symb mk, AV.sym IntKind.u64 b, AV.sym IntKind.u64 ep, AV.sym IntKind.u64 er], AV.agg [AV.ss 10 1 0 n none, AV.sym IntKind.u64 ew]] (saPH n l r g sl ge mk b ep er ew) (saPR n l r g sl ge mk b ep er ew) [] [Hint.lp [2, 3, 5] (Ex.exit 0) (saPS n l r g sl ge mk b ep er ew).tmps (saPE n l r g sl ge mk b ep er ew) 4 []] =
 some ([false = srchB (saPP n l r g sl ge mk b ep er ew) n,
 r = r,
 l ≤ l,
 g = g ∧ plainSh tSh = true ∨ ∀ (i : Nat), i < l → rowOb tSh 0 (g i) (g i),
 saPLN n l r g sl ge mk b ep er ew]) := by kernel_rfl
theorem saP_lpf (n l : Nat) (r : Bool) (g : Nat → Nat → AV) (sl ge : Int) (mk : Bool) (b ep er : Int) (ew : Int) (hl : n ≤ l) (hm : n ≤ 1000000) (k : Nat) (hk : k < n) (qk2 : saPP n l r g sl ge mk b ep er ew k = true) (qk3 : ∀ i, i < k → saPP n l r g sl ge mk b ep er ew i = false) : saPLF n l r g sl ge mk b ep er ew k := by
  refine loop_rule EM0_ok (I := Nat) (fun i => saPT n l r g sl ge mk b ep er ew i) (fun i => k - i) (fun i => i ≤ k) ?_ (fun ii hi => ?_)
  ·
    refine ⟨0, [], _, Nat.zero_le _, saPi_1 .., (ob_cons rfl (ob_cons rfl (ob_cons rfl (ob_cons rfl (ob_cons rfl (ob_cons rfl (ob_cons rfl (ob_cons rfl (ob_cons rfl (ob_cons rfl (ob_cons rfl (ob_cons rfl (ob_cons rfl (ob_cons rfl (ob_cons rfl (ob_cons rfl (ob_cons (Nat.le_refl _) (ob_cons (.inl ⟨rfl, rfl⟩) ob_nil))))))))))))))))))⟩
  cases h1 : (decide (b < avInt (g (0 + ii) 6))) with
  | true =>
    have g1 := of_decide_eq_true h1
    try simp only [Int.ofNat_eq_natCast, ge_iff_le, gt_iff_lt, Int.not_lt, Int.not_le] at g1
    have hpp : saPP n l r g sl ge mk b ep er ew ii = true := by (unfold saPP; (try rw [h1]); first | done | rfl | (simp; done) | (simp_all; done) | (simp_all [and2]; done))
    have hke : ii = k := by (rcases Nat.lt_or_ge ii k with q | q <;> first | (rw [qk3 ii q] at hpp; cases hpp) | omega)
    subst hke
    refine round_exit (s0 := saPU n l r g sl ge mk b ep er ew) (saPf_1 ..) (by simp) (ob_cons rfl (ob_cons rfl (ob_cons rfl (ob_cons rfl (ob_cons rfl (ob_cons rfl (ob_cons rfl (ob_cons rfl (ob_cons rfl (ob_cons rfl (ob_cons rfl (ob_cons (Nat.le_refl _) (ob_cons (.inl ⟨rfl, rfl⟩) (ob_cons h1 (ob_cons ?_ (ob_cons ?_ (ob_cons ?_ ob_nil)))))))))))))))))
    ·
      first | (apply Nat.ble_eq_true_of_le; omega) | (simp [Nat.blt_eq]; omega) | (simp; omega) | (simp [srchB_at hk qk2 qk3]; done) | (simp [srchB_no qno]; done)
    ·
      first | (apply Nat.ble_eq_true_of_le; omega) | (simp [Nat.blt_eq]; omega) | (simp; omega) | (simp [srchB_at hk qk2 qk3]; done) | (simp [srchB_no qno]; done)
    ·
      first | (apply Nat.ble_eq_true_of_le; omega) | (simp [Nat.blt_eq]; omega) | (simp; omega) | (simp [srchB_at hk qk2 qk3]; done) | (simp [srchB_no qno]; done)
  | false =>
    have g1 := of_decide_eq_false h1
    try simp only [Int.ofNat_eq_natCast, ge_iff_le, gt_iff_lt, Int.not_lt, Int.not_le] at g1
    have hpp : saPP n l r g sl ge mk b ep er ew ii = false := by (unfold saPP; (try rw [h1]); first | done | rfl | (simp; done) | (simp_all; done) | (simp_all [and2]; done))
    have hne : ii ≠ k := fun e => by (subst e; rw [qk2] at hpp; cases hpp)
    refine round_norm (s0 := saPU n l r g sl ge mk b ep er ew) (ii + 1) (saPf_2 ..) (ob_cons rfl (ob_cons rfl (ob_cons rfl (ob_cons rfl (ob_cons ?_ (ob_cons rfl (ob_cons rfl (ob_cons rfl (ob_cons rfl (ob_cons rfl (ob_cons rfl (ob_cons rfl (ob_cons rfl (ob_cons rfl (ob_cons rfl (ob_cons rfl (ob_cons (Nat.le_refl _) (ob_cons (.inl ⟨rfl, rfl⟩) (ob_cons h1 (ob_cons ?_ (ob_cons ?_ (ob_cons ?_ ob_nil)))))))))))))))))))))) (by show ii + 1 ≤ k; omega) (by show k - (ii + 1) < k - ii; omega)
    ·
      first | exact wrap_nat64 _ (by simp; omega) (by simp; omega) | (simp; omega) | (simp [srchB_at hk qk2 qk3]; done) | (simp [srchB_no qno]; done)
    ·
      first | (apply Nat.ble_eq_true_of_le; omega) | (simp [Nat.blt_eq]; omega) | (simp; omega) | (simp [srchB_at hk qk2 qk3]; done) | (simp [srchB_no qno]; done)
    ·
      first | (apply Nat.ble_eq_true_of_le; omega) | (simp [Nat.blt_eq]; omega) | (simp; omega) | (simp [srchB_at hk qk2 qk3]; done) | (simp [srchB_no qno]; done)
    ·
      first | (apply Nat.ble_eq_true_of_le; omega) | (simp [Nat.blt_eq]; omega) | (simp; omega) | (simp [srchB_at hk qk2 qk3]; done) | (simp [srchB_no qno]; done)
theorem saP_lpn (n l : Nat) (r : Bool) (g : Nat → Nat → AV) (sl ge : Int) (mk : Bool) (b ep er : Int) (ew : Int) (hl : n ≤ l) (hm : n ≤ 1000000) (qno : ∀ i, i < n → saPP n l r g sl ge mk b ep er ew i = false) : saPLN n l r g sl ge mk b ep er ew := by
  refine loop_rule EM0_ok (I := Nat) (fun i => saPT n l r g sl ge mk b ep er ew i) (fun i => n - i) (fun i => i ≤ n) ?_ (fun ii hi => ?_)
  ·
    refine ⟨0, [], _, Nat.zero_le _, saPi_1 .., (ob_cons rfl (ob_cons rfl (ob_cons rfl (ob_cons rfl (ob_cons rfl (ob_cons rfl (ob_cons rfl (ob_cons rfl (ob_cons rfl (ob_cons rfl (ob_cons rfl (ob_cons rfl (ob_cons rfl (ob_cons rfl (ob_cons rfl (ob_cons rfl (ob_cons (Nat.le_refl _) (ob_cons (.inl ⟨rfl, rfl⟩) ob_nil))))))))))))))))))⟩
  cases h1 : (decide (Int.ofNat ii < Int.ofNat n)) with
  | true =>
    have g1 := of_decide_eq_true h1
    try simp only [Int.ofNat_eq_natCast, ge_iff_le, gt_iff_lt, Int.not_lt, Int.not_le] at g1
    refine round_norm (s0 := saPU n l r g sl ge mk b ep er ew) (ii + 1) (saPn_2 ..) (ob_cons rfl (ob_cons rfl (ob_cons rfl (ob_cons rfl (ob_cons ?_ (ob_cons rfl (ob_cons rfl (ob_cons rfl (ob_cons rfl (ob_cons rfl (ob_cons rfl (ob_cons rfl (ob_cons rfl (ob_cons rfl (ob_cons rfl (ob_cons rfl (ob_cons (Nat.le_refl _) (ob_cons (.inl ⟨rfl, rfl⟩) (ob_cons ?_ (ob_cons ?_ (ob_cons ?_ (ob_cons h1 ob_nil)))))))))))))))))))))) (by show ii + 1 ≤ n; omega) (by show n - (ii + 1) < n - ii; omega)
    ·
      first | exact wrap_nat64 _ (by simp; omega) (by simp; omega) | (simp; omega) | (have q := qno ii (by omega); unfold saPP at q; (try simp only [h1] at q); (try simp [and2] at q); (try simp); first | exact q | omega | (simp_all; done)) | (simp [srchB_at hk qk2 qk3]; done) | (simp [srchB_no qno]; done)
    ·
      first | (apply Nat.ble_eq_true_of_le; omega) | (simp [Nat.blt_eq]; omega) | (simp; omega) | (have q := qno ii (by omega); unfold saPP at q; (try simp only [h1] at q); (try simp [and2] at q); (try simp); first | exact q | omega | (simp_all; done)) | (simp [srchB_at hk qk2 qk3]; done) | (simp [srchB_no qno]; done)
    ·
      first | (apply Nat.ble_eq_true_of_le; omega) | (simp [Nat.blt_eq]; omega) | (simp; omega) | (have q := qno ii (by omega); unfold saPP at q; (try simp only [h1] at q); (try simp [and2] at q); (try simp); first | exact q | omega | (simp_all; done)) | (simp [srchB_at hk qk2 qk3]; done) | (simp [srchB_no qno]; done)
    ·
      first | (apply Nat.ble_eq_true_of_le; omega) | (simp [Nat.blt_eq]; omega) | (simp; omega) | (have q := qno ii (by omega); unfold saPP at q; (try simp only [h1] at q); (try simp [and2] at q); (try simp); first | exact q | omega | (simp_all; done)) | (simp [srchB_at hk qk2 qk3]; done) | (simp [srchB_no qno]; done)
  | false =>
    have g1 := of_decide_eq_false h1
    try simp only [Int.ofNat_eq_natCast, ge_iff_le, gt_iff_lt, Int.not_lt, Int.not_le] at g1
    refine round_exit (s0 := saPU n l r g sl ge mk b ep er ew) (saPn_3 ..) (by simp) (ob_cons rfl (ob_cons rfl (ob_cons rfl (ob_cons rfl (ob_cons rfl (ob_cons rfl (ob_cons rfl (ob_cons rfl (ob_cons rfl (ob_cons rfl (ob_cons rfl (ob_cons (Nat.le_refl _) (ob_cons (.inl ⟨rfl, rfl⟩) (ob_cons h1 ob_nil))))))))))))))
theorem saP_loc (n l : Nat) (r : Bool) (g : Nat → Nat → AV) (sl ge : Int) (mk : Bool) (b ep er : Int) (ew : Int) : LocOk Try.prog 38 [.agg [.sym .i64 sl, .sym .u32 ge, .symb mk, .sym .u64 b, .sym .u64 ep, .sym .u64 er], .agg [.ss 10 1 0 n none, .sym .u64 ew]] (saPH n l r g sl ge mk b ep er ew) (saPR n l r g sl ge mk b ep er ew) := by
  refine loc_of_call EM0_ok (fun hp => ?_)
  have hl : n ≤ l := hp _ (List.mem_cons_self ..)
  have hm : n ≤ 1000000 := hp _ (List.mem_cons_of_mem _ (List.mem_cons_self ..))
  clear hp
  rcases first_true (saPP n l r g sl ge mk b ep er ew) (n) with qno | ⟨k, hk, qk2, qk3⟩
  · have hln := saP_lpn n l r g sl ge mk b ep er ew hl hm qno
    refine ⟨2000, _, _, _, saPcn_1 .., (ob_cons ?_ (ob_cons rfl (ob_cons (Nat.le_refl _) (ob_cons (.inl ⟨rfl, rfl⟩) (ob_cons ?_ ob_nil)))))⟩
    ·
      first | rfl | exact hln | (simp only [srch_no qno, srchB_no qno]; done) | (rw [srch_no qno]; done) | (simp [srchB_at hk qk2 qk3]; done) | (simp [srchB_no qno]; done)
    ·
      first | trivial | exact hln | (simp only [srch_no qno, srchB_no qno]; done) | (rw [srch_no qno]; done) | (simp [srchB_at hk qk2 qk3]; done) | (simp [srchB_no qno]; done)
  · have hlf := saP_lpf n l r g sl ge mk b ep er ew hl hm k hk qk2 qk3
    refine ⟨2000, _, _, _, saPcf_1 n l r g sl ge mk b ep er ew k, (ob_cons ?_ (ob_cons rfl (ob_cons (Nat.le_refl _) (ob_cons (.inl ⟨rfl, rfl⟩) (ob_cons ?_ ob_nil)))))⟩
    ·
      first | rfl | exact hlf | (simp only [srch_at hk qk2 qk3, srchB_at hk qk2 qk3]; done) | (rw [srch_at hk qk2 qk3]; done) | (simp [srchB_at hk qk2 qk3]; done) | (simp [srchB_no qno]; done)
    ·
      first | trivial | exact hlf | (simp only [srch_at hk qk2 qk3, srchB_at hk qk2 qk3]; done) | (rw [srch_at hk qk2 qk3]; done) | (simp [srchB_at hk qk2 qk3]; done) | (simp [srchB_no qno]; done)
noncomputable def saPSpec : LSpec := fun la lh => match la, lh with
  | [.agg [.sym .i64 sl, .sym .u32 ge, .symb mk, .sym .u64 b, .sym .u64 ep, .sym .u64 er], .agg [.ss z1 z2 z3 n none, .sym .u64 ew]], [(z4, .arr z5 z6 r l g)] =>
    match Nat.beq z1 10 && (Nat.beq z2 1 && (Nat.beq z3 0 && (Nat.beq z4 1 && (Nat.beq z5 10 && (shBeq z6 tSh))))) with
    | true => some (saPR n l r g sl ge mk b ep er ew)
    | false => none
  | _, _ => none
theorem saPSpec_ok (la : List AV) (lh : List (Nat × AO)) (R : LR) (h : saPSpec la lh = some R) : LocOk Try.prog 38 la lh R := by
  unfold saPSpec at h
  split at h
  · rename_i sl ge mk b ep er z1 z2 z3 n ew z4 z5 z6 r l g
    split at h
    · rename_i hb
      simp only [Bool.and_eq_true] at hb
      obtain ⟨e1, e2, e3, e4, e5, e6⟩ := hb
      have e1 := Nat.eq_of_beq_eq_true e1; subst e1
      have e2 := Nat.eq_of_beq_eq_true e2; subst e2
      have e3 := Nat.eq_of_beq_eq_true e3; subst e3
      have e4 := Nat.eq_of_beq_eq_true e4; subst e4
      have e5 := Nat.eq_of_beq_eq_true e5; subst e5
      have e6 := shBeq_eq e6; subst e6
      cases h
      exact saP_loc n l r g sl ge mk b ep er ew
    · cases h
  · cases h

theorem saFr_1 (n l : Nat) (r : Bool) (g : Nat → Nat → AV) (ew : Int) (ii : Nat) : roundB EM0 2000 saFL ((saFU n l r g ew).hp) [(3, Src.nm 5)] (saFT n l r g ew ii) [Hint.b true, Hint.b true, Hint.b true] (saFT n l r g ew (ii + 1)) =
 some (Ex.norm, [(0 : Nat) = 0,
 (0 : Nat) = 0,
 (0 : Nat) = 0,
 (fl (thOf g) ii).length + 1 = (fl (thOf g) (ii + 1)).length,
 (none : Option Nat) = none,
 IntKind.i64.wrap (Int.ofNat ii + 1) = Int.ofNat (ii + 1),
 false = false,
 (fl (thOf g) (ii + 1)).length ≤ (fl (thOf g) ii).length + 1,
 (flF (fl (thOf g) (ii + 1)) = fun i j => if i < (fl (thOf g) ii).length then flF (fl (thOf g) ii) (0 + i) j else rowsOf 1 [AV.sym IntKind.i64 (Int.ofNat ii)] (i - (fl (thOf g) ii).length) j) ∧ plainSh [CK.int IntKind.i64] = true ∨ ∀ (i : Nat), i < (fl (thOf g) (ii + 1)).length → rowOb [CK.int IntKind.i64] 0 (fun j => if i < (fl (thOf g) ii).length then flF (fl (thOf g) ii) (0 + i) j else rowsOf 1 [AV.sym IntKind.i64 (Int.ofNat ii)] (i - (fl (thOf g) ii).length) j) (flF (fl (thOf g) (ii + 1)) i),
 (0 : Nat) = 0,
 n = n,
 (none : Option Nat) = none,
 ew = ew,
 r = r,
 l ≤ l,
 g = g ∧ plainSh tSh = true ∨ ∀ (i : Nat), i < l → rowOb tSh 0 (g i) (g i),
 (((fl (thOf g) ii).length + 1) * 8).ble 70368744177664 = true,
 (0 + (fl (thOf g) ii).length).ble (fl (thOf g) ii).length = true,
 decide (avInt (g (0 + ii) 6) > 0) = true,
 (0 + ii).blt l = true,
 (ii.blt n && decide (0 ≤ Int.ofNat ii)) = true,
 decide (avInt (g (0 + ii) 0) > 0) = true,
 (0 + ii).blt l = true,
 (ii.blt n && decide (0 ≤ Int.ofNat ii)) = true,
 decide (Int.ofNat ii < Int.ofNat n) = true]) := by kernel_rfl
theorem saFr_2 (n l : Nat) (r : Bool) (g : Nat → Nat → AV) (ew : Int) (ii : Nat) : roundB EM0 2000 saFL ((saFU n l r g ew).hp) [(3, Src.nm 3)] (saFT n l r g ew ii) [Hint.b true, Hint.b true, Hint.b false] (saFT n l r g ew (ii + 1)) =
 some (Ex.norm, [(0 : Nat) = 0,
 (0 : Nat) = 0,
 (0 : Nat) = 0,
 (fl (thOf g) ii).length = (fl (thOf g) (ii + 1)).length,
 (none : Option Nat) = none,
 IntKind.i64.wrap (Int.ofNat ii + 1) = Int.ofNat (ii + 1),
 false = false,
 (fl (thOf g) (ii + 1)).length ≤ (fl (thOf g) ii).length,
 flF (fl (thOf g) (ii + 1)) = flF (fl (thOf g) ii) ∧ plainSh [CK.int IntKind.i64] = true ∨ ∀ (i : Nat), i < (fl (thOf g) (ii + 1)).length → rowOb [CK.int IntKind.i64] 0 (flF (fl (thOf g) ii) i) (flF (fl (thOf g) (ii + 1)) i),
 (0 : Nat) = 0,
 n = n,
 (none : Option Nat) = none,
 ew = ew,
 r = r,
 l ≤ l,
 g = g ∧ plainSh tSh = true ∨ ∀ (i : Nat), i < l → rowOb tSh 0 (g i) (g i),
 decide (avInt (g (0 + ii) 6) > 0) = false,
 (0 + ii).blt l = true,
 (ii.blt n && decide (0 ≤ Int.ofNat ii)) = true,
 decide (avInt (g (0 + ii) 0) > 0) = true,
 (0 + ii).blt l = true,
 (ii.blt n && decide (0 ≤ Int.ofNat ii)) = true,
 decide (Int.ofNat ii < Int.ofNat n) = true]) := by kernel_rfl
theorem saFr_3 (n l : Nat) (r : Bool) (g : Nat → Nat → AV) (ew : Int) (ii : Nat) : roundB EM0 2000 saFL ((saFU n l r g ew).hp) [(3, Src.nm 3)] (saFT n l r g ew ii) [Hint.b true, Hint.b false] (saFT n l r g ew (ii + 1)) =
 some (Ex.norm, [(0 : Nat) = 0,
 (0 : Nat) = 0,
 (0 : Nat) = 0,
 (fl (thOf g) ii).length = (fl (thOf g) (ii + 1)).length,
 (none : Option Nat) = none,
 IntKind.i64.wrap (Int.ofNat ii + 1) = Int.ofNat (ii + 1),
 false = false,
 (fl (thOf g) (ii + 1)).length ≤ (fl (thOf g) ii).length,
 flF (fl (thOf g) (ii + 1)) = flF (fl (thOf g) ii) ∧ plainSh [CK.int IntKind.i64] = true ∨ ∀ (i : Nat), i < (fl (thOf g) (ii + 1)).length → rowOb [CK.int IntKind.i64] 0 (flF (fl (thOf g) ii) i) (flF (fl (thOf g) (ii + 1)) i),
 (0 : Nat) = 0,
 n = n,
 (none : Option Nat) = none,
 ew = ew,
 r = r,
 l ≤ l,
 g = g ∧ plainSh tSh = true ∨ ∀ (i : Nat), i < l → rowOb tSh 0 (g i) (g i),
 decide (avInt (g (0 + ii) 0) > 0) = false,
 (0 + ii).blt l = true,
 (ii.blt n && decide (0 ≤ Int.ofNat ii)) = true,
 decide (Int.ofNat ii < Int.ofNat n) = true]) := by kernel_rfl
theorem saFr_4 (n l : Nat) (r : Bool) (g : Nat → Nat → AV) (ew : Int) (ii : Nat) : roundB EM0 2000 saFL ((saFU n l r g ew).hp) [(3, Src.nm 3)] (saFT n l r g ew ii) [Hint.b false] (saFX n l r g ew ii) =
 some (Ex.exit 0, [(0 : Nat) = 0,
 (0 : Nat) = 0,
 (0 : Nat) = 0,
 (fl (thOf g) ii).length = (fl (thOf g) ii).length,
 (none : Option Nat) = none,
 false = false,
 (fl (thOf g) ii).length ≤ (fl (thOf g) ii).length,
 flF (fl (thOf g) ii) = flF (fl (thOf g) ii) ∧ plainSh [CK.int IntKind.i64] = true ∨ ∀ (i : Nat), i < (fl (thOf g) ii).length → rowOb [CK.int IntKind.i64] 0 (flF (fl (thOf g) ii) i) (flF (fl (thOf g) ii) i),
 (0 : Nat) = 0,
 n = n,
 (none : Option Nat) = none,
 ew = ew,
 r = r,
 l ≤ l,
 g = g ∧ plainSh tSh = true ∨ ∀ (i : Nat), i < l → rowOb tSh 0 (g i) (g i),
 decide (Int.ofNat ii < Int.ofNat n) = false]) := by kernel_rfl
theorem saFi_1 (n l : Nat) (r : Bool) (g : Nat → Nat → AV) (ew : Int) : castSt ((saFU n l r g ew).hp) [(3, Src.nil 1)] (saFU n l r g ew) (saFT n l r g ew 0) =
 some ([(0 : Nat) = 0,
 (0 : Nat) = 0,
 (0 : Nat) = 0,
 (0 : Nat) = 0,
 (none : Option Nat) = none,
 (0 : Int) = 0,
 (0 : Nat) = 0,
 (0 : Nat) = 0,
 n = n,
 (none : Option Nat) = none,
 ew = ew,
 r = r,
 l ≤ l,
 g = g ∧ plainSh tSh = true ∨ ∀ (i : Nat), i < l → rowOb tSh 0 (g i) (g i)]) := by kernel_rfl
theorem saF_lp (n l : Nat) (r : Bool) (g : Nat → Nat → AV) (ew : Int) (hl : n ≤ l) (hm : n ≤ 1000000) (hg : ∀ i, i < n → 0 ≤ avInt (g i 0) ∧ 0 ≤ avInt (g i 6)) : saFLP n l r g ew := by
  refine loop_rule EM0_ok (I := Nat) (fun i => saFT n l r g ew i) (fun i => n - i) (fun i => i ≤ n) ?_ (fun ii hi => ?_)
  ·
    refine ⟨0, [(3, Src.nil 1)], _, Nat.zero_le _, saFi_1 .., (ob_cons rfl (ob_cons rfl (ob_cons rfl (ob_cons rfl (ob_cons rfl (ob_cons rfl (ob_cons rfl (ob_cons rfl (ob_cons rfl (ob_cons rfl (ob_cons rfl (ob_cons rfl (ob_cons (Nat.le_refl _) (ob_cons (.inl ⟨rfl, rfl⟩) ob_nil))))))))))))))⟩
  have hi : ii ≤ n := hi
  have hlen := fl_len (thOf g) ii
  cases h1 : (decide (Int.ofNat ii < Int.ofNat n)) with
  | true =>
    have g1 := of_decide_eq_true h1
    try simp only [Int.ofNat_eq_natCast, ge_iff_le, gt_iff_lt, Int.not_lt, Int.not_le] at g1
    cases h2 : (decide (avInt (g (0 + ii) 0) > 0)) with
    | true =>
      have g2 := of_decide_eq_true h2
      try simp only [Int.ofNat_eq_natCast, ge_iff_le, gt_iff_lt, Int.not_lt, Int.not_le] at g2
      cases h3 : (decide (avInt (g (0 + ii) 6) > 0)) with
      | true =>
        have g3 := of_decide_eq_true h3
        try simp only [Int.ofNat_eq_natCast, ge_iff_le, gt_iff_lt, Int.not_lt, Int.not_le] at g3
        refine round_norm (s0 := saFU n l r g ew) (T := fun i => saFT n l r g ew i) (i := ii) (ii + 1) (saFr_1 ..) (ob_cons rfl (ob_cons rfl (ob_cons rfl (ob_cons ?_ (ob_cons rfl (ob_cons ?_ (ob_cons rfl (ob_cons ?_ (ob_cons ?_ (ob_cons rfl (ob_cons rfl (ob_cons rfl (ob_cons rfl (ob_cons rfl (ob_cons (Nat.le_refl _) (ob_cons (.inl ⟨rfl, rfl⟩) (ob_cons ?_ (ob_cons ?_ (ob_cons h3 (ob_cons ?_ (ob_cons ?_ (ob_cons h2 (ob_cons ?_ (ob_cons ?_ (ob_cons h1 ob_nil))))))))))))))))))))))))) (by show ii + 1 ≤ n; omega) (by show n - (ii + 1) < n - ii; omega)
        ·
          first | rfl | ((first | rw [flh g2 g3] | rw [flm1 g3 (hg ii (by omega)).2] | rw [flm0 g2 (hg ii (by omega)).1]) <;> first | (simp; done) | exact .inl ⟨rfl, rfl⟩ | exact .inr (fl_rowf _ _) | omega) | omega
        ·
          first | exact wrap_nat64 _ (by simp; omega) (by simp; omega) | ((first | rw [flh g2 g3] | rw [flm1 g3 (hg ii (by omega)).2] | rw [flm0 g2 (hg ii (by omega)).1]) <;> first | (simp; done) | exact .inl ⟨rfl, rfl⟩ | exact .inr (fl_rowf _ _) | omega) | omega
        ·
          first | exact Nat.le_refl _ | omega | ((first | rw [flh g2 g3] | rw [flm1 g3 (hg ii (by omega)).2] | rw [flm0 g2 (hg ii (by omega)).1]) <;> first | (simp; done) | exact .inl ⟨rfl, rfl⟩ | exact .inr (fl_rowf _ _) | omega) | omega
        ·
          first | exact .inl ⟨rfl, rfl⟩ | ((first | rw [flh g2 g3] | rw [flm1 g3 (hg ii (by omega)).2] | rw [flm0 g2 (hg ii (by omega)).1]) <;> first | (simp; done) | exact .inl ⟨rfl, rfl⟩ | exact .inr (fl_rowf _ _) | omega) | omega
        ·
          first | (apply Nat.ble_eq_true_of_le; omega) | (simp [Nat.blt_eq]; omega) | ((first | rw [flh g2 g3] | rw [flm1 g3 (hg ii (by omega)).2] | rw [flm0 g2 (hg ii (by omega)).1]) <;> first | (simp; done) | exact .inl ⟨rfl, rfl⟩ | exact .inr (fl_rowf _ _) | omega) | omega
        ·
          first | (apply Nat.ble_eq_true_of_le; omega) | (simp [Nat.blt_eq]; omega) | ((first | rw [flh g2 g3] | rw [flm1 g3 (hg ii (by omega)).2] | rw [flm0 g2 (hg ii (by omega)).1]) <;> first | (simp; done) | exact .inl ⟨rfl, rfl⟩ | exact .inr (fl_rowf _ _) | omega) | omega
        ·
          first | (apply Nat.ble_eq_true_of_le; omega) | (simp [Nat.blt_eq]; omega) | ((first | rw [flh g2 g3] | rw [flm1 g3 (hg ii (by omega)).2] | rw [flm0 g2 (hg ii (by omega)).1]) <;> first | (simp; done) | exact .inl ⟨rfl, rfl⟩ | exact .inr (fl_rowf _ _) | omega) | omega
        ·
          first | (apply Nat.ble_eq_true_of_le; omega) | (simp [Nat.blt_eq]; omega) | ((first | rw [flh g2 g3] | rw [flm1 g3 (hg ii (by omega)).2] | rw [flm0 g2 (hg ii (by omega)).1]) <;> first | (simp; done) | exact .inl ⟨rfl, rfl⟩ | exact .inr (fl_rowf _ _) | omega) | omega
        ·
          first | (apply Nat.ble_eq_true_of_le; omega) | (simp [Nat.blt_eq]; omega) | ((first | rw [flh g2 g3] | rw [flm1 g3 (hg ii (by omega)).2] | rw [flm0 g2 (hg ii (by omega)).1]) <;> first | (simp; done) | exact .inl ⟨rfl, rfl⟩ | exact .inr (fl_rowf _ _) | omega) | omega
        ·
          first | (apply Nat.ble_eq_true_of_le; omega) | (simp [Nat.blt_eq]; omega) | ((first | rw [flh g2 g3] | rw [flm1 g3 (hg ii (by omega)).2] | rw [flm0 g2 (hg ii (by omega)).1]) <;> first | (simp; done) | exact .inl ⟨rfl, rfl⟩ | exact .inr (fl_rowf _ _) | omega) | omega
      | false =>
        have g3 := of_decide_eq_false h3
        try simp only [Int.ofNat_eq_natCast, ge_iff_le, gt_iff_lt, Int.not_lt, Int.not_le] at g3
        refine round_norm (s0 := saFU n l r g ew) (T := fun i => saFT n l r g ew i) (i := ii) (ii + 1) (saFr_2 ..) (ob_cons rfl (ob_cons rfl (ob_cons rfl (ob_cons ?_ (ob_cons rfl (ob_cons ?_ (ob_cons rfl (ob_cons ?_ (ob_cons ?_ (ob_cons rfl (ob_cons rfl (ob_cons rfl (ob_cons rfl (ob_cons rfl (ob_cons (Nat.le_refl _) (ob_cons (.inl ⟨rfl, rfl⟩) (ob_cons h3 (ob_cons ?_ (ob_cons ?_ (ob_cons h2 (ob_cons ?_ (ob_cons ?_ (ob_cons h1 ob_nil))))))))))))))))))))))) (by show ii + 1 ≤ n; omega) (by show n - (ii + 1) < n - ii; omega)
        ·
          first | rfl | ((first | rw [flh g2 g3] | rw [flm1 g3 (hg ii (by omega)).2] | rw [flm0 g2 (hg ii (by omega)).1]) <;> first | (simp; done) | exact .inl ⟨rfl, rfl⟩ | exact .inr (fl_rowf _ _) | omega) | omega
        ·
          first | exact wrap_nat64 _ (by simp; omega) (by simp; omega) | ((first | rw [flh g2 g3] | rw [flm1 g3 (hg ii (by omega)).2] | rw [flm0 g2 (hg ii (by omega)).1]) <;> first | (simp; done) | exact .inl ⟨rfl, rfl⟩ | exact .inr (fl_rowf _ _) | omega) | omega
        ·
          first | exact Nat.le_refl _ | omega | ((first | rw [flh g2 g3] | rw [flm1 g3 (hg ii (by omega)).2] | rw [flm0 g2 (hg ii (by omega)).1]) <;> first | (simp; done) | exact .inl ⟨rfl, rfl⟩ | exact .inr (fl_rowf _ _) | omega) | omega
        ·
          first | exact .inl ⟨rfl, rfl⟩ | ((first | rw [flh g2 g3] | rw [flm1 g3 (hg ii (by omega)).2] | rw [flm0 g2 (hg ii (by omega)).1]) <;> first | (simp; done) | exact .inl ⟨rfl, rfl⟩ | exact .inr (fl_rowf _ _) | omega) | omega
        ·
          first | (apply Nat.ble_eq_true_of_le; omega) | (simp [Nat.blt_eq]; omega) | ((first | rw [flh g2 g3] | rw [flm1 g3 (hg ii (by omega)).2] | rw [flm0 g2 (hg ii (by omega)).1]) <;> first | (simp; done) | exact .inl ⟨rfl, rfl⟩ | exact .inr (fl_rowf _ _) | omega) | omega
        ·
          first | (apply Nat.ble_eq_true_of_le; omega) | (simp [Nat.blt_eq]; omega) | ((first | rw [flh g2 g3] | rw [flm1 g3 (hg ii (by omega)).2] | rw [flm0 g2 (hg ii (by omega)).1]) <;> first | (simp; done) | exact .inl ⟨rfl, rfl⟩ | exact .inr (fl_rowf _ _) | omega) | omega
        ·
          first | (apply Nat.ble_eq_true_of_le; omega) | (simp [Nat.blt_eq]; omega) | ((first | rw [flh g2 g3] | rw [flm1 g3 (hg ii (by omega)).2] | rw [flm0 g2 (hg ii (by omega)).1]) <;> first | (simp; done) | exact .inl ⟨rfl, rfl⟩ | exact .inr (fl_rowf _ _) | omega) | omega
        ·
          first | (apply Nat.ble_eq_true_of_le; omega) | (simp [Nat.blt_eq]; omega) | ((first | rw [flh g2 g3] | rw [flm1 g3 (hg ii (by omega)).2] | rw [flm0 g2 (hg ii (by omega)).1]) <;> first | (simp; done) | exact .inl ⟨rfl, rfl⟩ | exact .inr (fl_rowf _ _) | omega) | omega
    | false =>
      have g2 := of_decide_eq_false h2
      try simp only [Int.ofNat_eq_natCast, ge_iff_le, gt_iff_lt, Int.not_lt, Int.not_le] at g2
      refine round_norm (s0 := saFU n l r g ew) (T := fun i => saFT n l r g ew i) (i := ii) (ii + 1) (saFr_3 ..) (ob_cons rfl (ob_cons rfl (ob_cons rfl (ob_cons ?_ (ob_cons rfl (ob_cons ?_ (ob_cons rfl (ob_cons ?_ (ob_cons ?_ (ob_cons rfl (ob_cons rfl (ob_cons rfl (ob_cons rfl (ob_cons rfl (ob_cons (Nat.le_refl _) (ob_cons (.inl ⟨rfl, rfl⟩) (ob_cons h2 (ob_cons ?_ (ob_cons ?_ (ob_cons h1 ob_nil)))))))))))))))))))) (by show ii + 1 ≤ n; omega) (by show n - (ii + 1) < n - ii; omega)
      ·
        first | rfl | ((first | rw [flh g2 g3] | rw [flm1 g3 (hg ii (by omega)).2] | rw [flm0 g2 (hg ii (by omega)).1]) <;> first | (simp; done) | exact .inl ⟨rfl, rfl⟩ | exact .inr (fl_rowf _ _) | omega) | omega
      ·
        first | exact wrap_nat64 _ (by simp; omega) (by simp; omega) | ((first | rw [flh g2 g3] | rw [flm1 g3 (hg ii (by omega)).2] | rw [flm0 g2 (hg ii (by omega)).1]) <;> first | (simp; done) | exact .inl ⟨rfl, rfl⟩ | exact .inr (fl_rowf _ _) | omega) | omega
      ·
        first | exact Nat.le_refl _ | omega | ((first | rw [flh g2 g3] | rw [flm1 g3 (hg ii (by omega)).2] | rw [flm0 g2 (hg ii (by omega)).1]) <;> first | (simp; done) | exact .inl ⟨rfl, rfl⟩ | exact .inr (fl_rowf _ _) | omega) | omega
      ·
        first | exact .inl ⟨rfl, rfl⟩ | ((first | rw [flh g2 g3] | rw [flm1 g3 (hg ii (by omega)).2] | rw [flm0 g2 (hg ii (by omega)).1]) <;> first | (simp; done) | exact .inl ⟨rfl, rfl⟩ | exact .inr (fl_rowf _ _) | omega) | omega
      ·
        first | (apply Nat.ble_eq_true_of_le; omega) | (simp [Nat.blt_eq]; omega) | ((first | rw [flh g2 g3] | rw [flm1 g3 (hg ii (by omega)).2] | rw [flm0 g2 (hg ii (by omega)).1]) <;> first | (simp; done) | exact .inl ⟨rfl, rfl⟩ | exact .inr (fl_rowf _ _) | omega) | omega
      ·
        first | (apply Nat.ble_eq_true_of_le; omega) | (simp [Nat.blt_eq]; omega) | ((first | rw [flh g2 g3] | rw [flm1 g3 (hg ii (by omega)).2] | rw [flm0 g2 (hg ii (by omega)).1]) <;> first | (simp; done) | exact .inl ⟨rfl, rfl⟩ | exact .inr (fl_rowf _ _) | omega) | omega
  | false =>
    have g1 := of_decide_eq_false h1
    try simp only [Int.ofNat_eq_natCast, ge_iff_le, gt_iff_lt, Int.not_lt, Int.not_le] at g1
    obtain rfl : n = ii := by omega
    refine round_exit (s0 := saFU n l r g ew) (T := fun i => saFT n l r g ew i) (i := n) (saFr_4 ..) (by simp) (ob_cons rfl (ob_cons rfl (ob_cons rfl (ob_cons rfl (ob_cons rfl (ob_cons rfl (ob_cons (Nat.le_refl _) (ob_cons (.inl ⟨rfl, rfl⟩) (ob_cons rfl (ob_cons rfl (ob_cons rfl (ob_cons rfl (ob_cons rfl (ob_cons (Nat.le_refl _) (ob_cons (.inl ⟨rfl, rfl⟩) (ob_cons h1 ob_nil))))))))))))))))
theorem saG_1 (n l : Nat) (r : Bool) (g : Nat → Nat → AV) (ew : Int) : callB EM0 2000 36 [AV.agg [AV.ss 10 1 0 n none, AV.sym IntKind.u64 ew]] (saGH n l r g ew) (saGR n l r g ew) [(2, Src.nm 3)] [Hint.lp [1, 3, 4] (Ex.exit 0) (saFX n l r g ew n).tmps (saFX n l r g ew n).hp.heap 4 []] =
 some ([(0 : Nat) = 0,
 (fl (thOf g) n).length = (fl (thOf g) n).length,
 (none : Option Nat) = none,
 false = false,
 (fl (thOf g) n).length ≤ (fl (thOf g) n).length,
 flF (fl (thOf g) n) = flF (fl (thOf g) n) ∧ plainSh [CK.int IntKind.i64] = true ∨ ∀ (i : Nat), i < (fl (thOf g) n).length → rowOb [CK.int IntKind.i64] 0 (flF (fl (thOf g) n) i) (flF (fl (thOf g) n) i),
 r = r,
 l ≤ l,
 g = g ∧ plainSh tSh = true ∨ ∀ (i : Nat), i < l → rowOb tSh 0 (g i) (g i),
 saFLP n l r g ew]) := by kernel_rfl
theorem saG_loc (n l : Nat) (r : Bool) (g : Nat → Nat → AV) (ew : Int) : LocOk Try.prog 36 [.agg [.ss 10 1 0 n none, .sym .u64 ew]] (saGH n l r g ew) (saGR n l r g ew) := by
  refine loc_of_call EM0_ok (fun hp => ?_)
  have hl : n ≤ l := hp _ (List.mem_cons_self ..)
  have hm : n ≤ 1000000 := hp _ (List.mem_cons_of_mem _ (List.mem_cons_self ..))
  have hg : ∀ i, i < n → 0 ≤ avInt (g i 0) ∧ 0 ≤ avInt (g i 6) := hp _ (List.mem_cons_of_mem _ (List.mem_cons_of_mem _ (List.mem_cons_self ..)))
  clear hp
  refine ⟨2000, _, _, _, saG_1 .., (ob_cons rfl (ob_cons rfl (ob_cons rfl (ob_cons rfl (ob_cons (Nat.le_refl _) (ob_cons (.inl ⟨rfl, rfl⟩) (ob_cons rfl (ob_cons (Nat.le_refl _) (ob_cons (.inl ⟨rfl, rfl⟩) (ob_cons ?_ ob_nil))))))))))⟩
  ·
    first | trivial | exact saF_lp n l r g ew hl hm hg | omega
noncomputable def saGSpec : LSpec := fun la lh => match la, lh with
  | [.agg [.ss z1 z2 z3 n none, .sym .u64 ew]], [(z4, .arr z5 z6 r l g)] =>
    match Nat.beq z1 10 && (Nat.beq z2 1 && (Nat.beq z3 0 && (Nat.beq z4 1 && (Nat.beq z5 10 && (shBeq z6 tSh))))) with
    | true => some (saGR n l r g ew)
    | false => none
  | _, _ => none
theorem saGSpec_ok (la : List AV) (lh : List (Nat × AO)) (R : LR) (h : saGSpec la lh = some R) : LocOk Try.prog 36 la lh R := by
  unfold saGSpec at h
  split at h
  · rename_i z1 z2 z3 n ew z4 z5 z6 r l g
    split at h
    · rename_i hb
      simp only [Bool.and_eq_true] at hb
      obtain ⟨e1, e2, e3, e4, e5, e6⟩ := hb
      have e1 := Nat.eq_of_beq_eq_true e1; subst e1
      have e2 := Nat.eq_of_beq_eq_true e2; subst e2
      have e3 := Nat.eq_of_beq_eq_true e3; subst e3
      have e4 := Nat.eq_of_beq_eq_true e4; subst e4
      have e5 := Nat.eq_of_beq_eq_true e5; subst e5
      have e6 := shBeq_eq e6; subst e6
      cases h
      exact saG_loc n l r g ew
    · cases h
  · cases h

theorem saT_1 (z0 z1 z2 : Int) : callB EM0 2000 33 [AV.sym IntKind.i64 z0, AV.sym IntKind.i64 z1, AV.sym IntKind.i64 z2] (saTH z0 z1 z2) (saTR z0 z1 z2) [] [Hint.b true, Hint.b true] =
 some ([decide (IntKind.u64.wrap (IntKind.u64.wrap z0 - IntKind.u64.wrap z1) > IntKind.u64.wrap z2) = stB z0 z1 z2,
 decide (z1 ≤ z0) = true,
 decide (z2 ≥ 0) = true]) := by kernel_rfl
theorem saT_2 (z0 z1 z2 : Int) : callB EM0 2000 33 [AV.sym IntKind.i64 z0, AV.sym IntKind.i64 z1, AV.sym IntKind.i64 z2] (saTH z0 z1 z2) (saTR z0 z1 z2) [] [Hint.b true, Hint.b false] =
 some ([false = stB z0 z1 z2,
 decide (z1 ≤ z0) = false,
 decide (z2 ≥ 0) = true]) := by kernel_rfl
theorem saT_3 (z0 z1 z2 : Int) : callB EM0 2000 33 [AV.sym IntKind.i64 z0, AV.sym IntKind.i64 z1, AV.sym IntKind.i64 z2] (saTH z0 z1 z2) (saTR z0 z1 z2) [] [Hint.b false] =
 some ([false = stB z0 z1 z2,
 decide (z2 ≥ 0) = false]) := by kernel_rfl
theorem saT_loc (z0 z1 z2 : Int) : LocOk Try.prog 33 [.sym .i64 z0, .sym .i64 z1, .sym .i64 z2] (saTH z0 z1 z2) (saTR z0 z1 z2) := by
  refine loc_of_call EM0_ok (fun hp => ?_)
  have q0 : -9223372036854775808 ≤ z0 ∧ z0 < 9223372036854775808 := hp _ (List.mem_cons_self ..)
  have q1 : -9223372036854775808 ≤ z1 ∧ z1 < 9223372036854775808 := hp _ (List.mem_cons_of_mem _ (List.mem_cons_self ..))
  have q2 : -9223372036854775808 ≤ z2 ∧ z2 < 9223372036854775808 := hp _ (List.mem_cons_of_mem _ (List.mem_cons_of_mem _ (List.mem_cons_self ..)))
  clear hp
  cases h1 : (decide (z2 ≥ 0)) with
  | true =>
    have g1 := of_decide_eq_true h1
    try simp only [Int.ofNat_eq_natCast, ge_iff_le, gt_iff_lt, Int.not_lt, Int.not_le] at g1
    cases h2 : (decide (z1 ≤ z0)) with
    | true =>
      have g2 := of_decide_eq_true h2
      try simp only [Int.ofNat_eq_natCast, ge_iff_le, gt_iff_lt, Int.not_lt, Int.not_le] at g2
      refine ⟨2000, _, _, _, saT_1 .., (ob_cons ?_ (ob_cons h2 (ob_cons h1 ob_nil)))⟩
      ·
        first | rfl | (exact st_a q0 q1 q2 (by omega) (by omega)) | (unfold stB; exact (decide_eq_false (by omega)).symm)
    | false =>
      have g2 := of_decide_eq_false h2
      try simp only [Int.ofNat_eq_natCast, ge_iff_le, gt_iff_lt, Int.not_lt, Int.not_le] at g2
      refine ⟨2000, _, _, _, saT_2 .., (ob_cons ?_ (ob_cons h2 (ob_cons h1 ob_nil)))⟩
      ·
        first | rfl | (exact st_a q0 q1 q2 (by omega) (by omega)) | (unfold stB; exact (decide_eq_false (by omega)).symm)
  | false =>
    have g1 := of_decide_eq_false h1
    try simp only [Int.ofNat_eq_natCast, ge_iff_le, gt_iff_lt, Int.not_lt, Int.not_le] at g1
    refine ⟨2000, _, _, _, saT_3 .., (ob_cons ?_ (ob_cons h1 ob_nil))⟩
    ·
      first | rfl | (exact st_a q0 q1 q2 (by omega) (by omega)) | (unfold stB; exact (decide_eq_false (by omega)).symm)
noncomputable def saTSpec : LSpec := fun la lh => match la, lh with
  | [.sym .i64 z0, .sym .i64 z1, .sym .i64 z2], [] => some (saTR z0 z1 z2)
  | _, _ => none
theorem saTSpec_ok (la : List AV) (lh : List (Nat × AO)) (R : LR) (h : saTSpec la lh = some R) : LocOk Try.prog 33 la lh R := by
  unfold saTSpec at h
  split at h
  · rename_i z0 z1 z2
    cases h
    exact saT_loc z0 z1 z2
  · cases h

theorem saR_1 (z0 z1 z2 : Int) : callB EM0 2000 39 [AV.sym IntKind.i64 z0, AV.sym IntKind.i64 z1, AV.sym IntKind.i64 z2] (saRH z0 z1 z2) (saRR z0 z1 z2) [] [Hint.b true] =
 some ([false = stB z0 z1 z2,
 decide (z2 < 0) = true]) := by kernel_rfl
theorem saR_2 (z0 z1 z2 : Int) : callB EM0 2000 39 [AV.sym IntKind.i64 z0, AV.sym IntKind.i64 z1, AV.sym IntKind.i64 z2] (saRH z0 z1 z2) (saRR z0 z1 z2) [] [Hint.b false, Hint.b true] =
 some ([false = stB z0 z1 z2,
 decide (z1 > z0) = true,
 decide (z2 < 0) = false]) := by kernel_rfl
theorem saR_3 (z0 z1 z2 : Int) : callB EM0 2000 39 [AV.sym IntKind.i64 z0, AV.sym IntKind.i64 z1, AV.sym IntKind.i64 z2] (saRH z0 z1 z2) (saRR z0 z1 z2) [] [Hint.b false, Hint.b false, Hint.b true, Hint.b true, Hint.b true] =
 some ([true = stB z0 z1 z2,
 decide (z0 > z2) = true,
 decide (z0 ≥ 0) = true,
 decide (z1 < 0) = true,
 decide (z1 > z0) = false,
 decide (z2 < 0) = false]) := by kernel_rfl
theorem saR_4 (z0 z1 z2 : Int) : callB EM0 2000 39 [AV.sym IntKind.i64 z0, AV.sym IntKind.i64 z1, AV.sym IntKind.i64 z2] (saRH z0 z1 z2) (saRR z0 z1 z2) [] [Hint.b false, Hint.b false, Hint.b true, Hint.b true, Hint.b false] =
 some ([decide (IntKind.i64.wrap (0 - IntKind.i64.wrap (z1 + 1)) ≥ IntKind.i64.wrap (z2 - z0)) = stB z0 z1 z2,
 decide (z0 > z2) = false,
 decide (z0 ≥ 0) = true,
 decide (z1 < 0) = true,
 decide (z1 > z0) = false,
 decide (z2 < 0) = false]) := by kernel_rfl
theorem saR_5 (z0 z1 z2 : Int) : callB EM0 2000 39 [AV.sym IntKind.i64 z0, AV.sym IntKind.i64 z1, AV.sym IntKind.i64 z2] (saRH z0 z1 z2) (saRR z0 z1 z2) [] [Hint.b false, Hint.b false, Hint.b true, Hint.b false] =
 some ([decide (IntKind.i64.wrap (z0 - z1) > z2) = stB z0 z1 z2,
 decide (z0 ≥ 0) = false,
 decide (z1 < 0) = true,
 decide (z1 > z0) = false,
 decide (z2 < 0) = false]) := by kernel_rfl
theorem saR_6 (z0 z1 z2 : Int) : callB EM0 2000 39 [AV.sym IntKind.i64 z0, AV.sym IntKind.i64 z1, AV.sym IntKind.i64 z2] (saRH z0 z1 z2) (saRR z0 z1 z2) [] [Hint.b false, Hint.b false, Hint.b false] =
 some ([decide (IntKind.i64.wrap (z0 - z1) > z2) = stB z0 z1 z2,
 decide (z1 < 0) = false,
 decide (z1 > z0) = false,
 decide (z2 < 0) = false]) := by kernel_rfl
theorem saR_loc (z0 z1 z2 : Int) : LocOk Try.prog 39 [.sym .i64 z0, .sym .i64 z1, .sym .i64 z2] (saRH z0 z1 z2) (saRR z0 z1 z2) := by
  refine loc_of_call EM0_ok (fun hp => ?_)
  have q0 : -9223372036854775808 ≤ z0 ∧ z0 < 9223372036854775808 := hp _ (List.mem_cons_self ..)
  have q1 : -9223372036854775808 ≤ z1 ∧ z1 < 9223372036854775808 := hp _ (List.mem_cons_of_mem _ (List.mem_cons_self ..))
  have q2 : -9223372036854775808 ≤ z2 ∧ z2 < 9223372036854775808 := hp _ (List.mem_cons_of_mem _ (List.mem_cons_of_mem _ (List.mem_cons_self ..)))
  clear hp
  cases h1 : (decide (z2 < 0)) with
  | true =>
    have g1 := of_decide_eq_true h1
    try simp only [Int.ofNat_eq_natCast, ge_iff_le, gt_iff_lt, Int.not_lt, Int.not_le] at g1
    refine ⟨2000, _, _, _, saR_1 .., (ob_cons ?_ (ob_cons h1 ob_nil))⟩
    ·
      first | rfl | (exact st_c q0 q1 (by omega) (by omega) (by omega)) | (exact st_d q0 q1 q2 (by omega) (by omega) (by omega)) | (unfold stB; exact (decide_eq_false (by omega)).symm) | (unfold stB; exact (decide_eq_true (by omega)).symm)
  | false =>
    have g1 := of_decide_eq_false h1
    try simp only [Int.ofNat_eq_natCast, ge_iff_le, gt_iff_lt, Int.not_lt, Int.not_le] at g1
    cases h2 : (decide (z1 > z0)) with
    | true =>
      have g2 := of_decide_eq_true h2
      try simp only [Int.ofNat_eq_natCast, ge_iff_le, gt_iff_lt, Int.not_lt, Int.not_le] at g2
      refine ⟨2000, _, _, _, saR_2 .., (ob_cons ?_ (ob_cons h2 (ob_cons h1 ob_nil)))⟩
      ·
        first | rfl | (exact st_c q0 q1 (by omega) (by omega) (by omega)) | (exact st_d q0 q1 q2 (by omega) (by omega) (by omega)) | (unfold stB; exact (decide_eq_false (by omega)).symm) | (unfold stB; exact (decide_eq_true (by omega)).symm)
    | false =>
      have g2 := of_decide_eq_false h2
      try simp only [Int.ofNat_eq_natCast, ge_iff_le, gt_iff_lt, Int.not_lt, Int.not_le] at g2
      cases h3 : (decide (z1 < 0)) with
      | true =>
        have g3 := of_decide_eq_true h3
        try simp only [Int.ofNat_eq_natCast, ge_iff_le, gt_iff_lt, Int.not_lt, Int.not_le] at g3
        cases h4 : (decide (z0 ≥ 0)) with
        | true =>
          have g4 := of_decide_eq_true h4
          try simp only [Int.ofNat_eq_natCast, ge_iff_le, gt_iff_lt, Int.not_lt, Int.not_le] at g4
          cases h5 : (decide (z0 > z2)) with
          | true =>
            have g5 := of_decide_eq_true h5
            try simp only [Int.ofNat_eq_natCast, ge_iff_le, gt_iff_lt, Int.not_lt, Int.not_le] at g5
            refine ⟨2000, _, _, _, saR_3 .., (ob_cons ?_ (ob_cons h5 (ob_cons h4 (ob_cons h3 (ob_cons h2 (ob_cons h1 ob_nil))))))⟩
            ·
              first | rfl | (exact st_c q0 q1 (by omega) (by omega) (by omega)) | (exact st_d q0 q1 q2 (by omega) (by omega) (by omega)) | (unfold stB; exact (decide_eq_false (by omega)).symm) | (unfold stB; exact (decide_eq_true (by omega)).symm)
          | false =>
            have g5 := of_decide_eq_false h5
            try simp only [Int.ofNat_eq_natCast, ge_iff_le, gt_iff_lt, Int.not_lt, Int.not_le] at g5
            refine ⟨2000, _, _, _, saR_4 .., (ob_cons ?_ (ob_cons h5 (ob_cons h4 (ob_cons h3 (ob_cons h2 (ob_cons h1 ob_nil))))))⟩
            ·
              first | rfl | (exact st_c q0 q1 (by omega) (by omega) (by omega)) | (exact st_d q0 q1 q2 (by omega) (by omega) (by omega)) | (unfold stB; exact (decide_eq_false (by omega)).symm) | (unfold stB; exact (decide_eq_true (by omega)).symm)
        | false =>
          have g4 := of_decide_eq_false h4
          try simp only [Int.ofNat_eq_natCast, ge_iff_le, gt_iff_lt, Int.not_lt, Int.not_le] at g4
          refine ⟨2000, _, _, _, saR_5 .., (ob_cons ?_ (ob_cons h4 (ob_cons h3 (ob_cons h2 (ob_cons h1 ob_nil)))))⟩
          ·
            first | rfl | (exact st_c q0 q1 (by omega) (by omega) (by omega)) | (exact st_d q0 q1 q2 (by omega) (by omega) (by omega)) | (unfold stB; exact (decide_eq_false (by omega)).symm) | (unfold stB; exact (decide_eq_true (by omega)).symm)
      | false =>
        have g3 := of_decide_eq_false h3
        try simp only [Int.ofNat_eq_natCast, ge_iff_le, gt_iff_lt, Int.not_lt, Int.not_le] at g3
        refine ⟨2000, _, _, _, saR_6 .., (ob_cons ?_ (ob_cons h3 (ob_cons h2 (ob_cons h1 ob_nil))))⟩
        ·
          first | rfl | (exact st_c q0 q1 (by omega) (by omega) (by omega)) | (exact st_d q0 q1 q2 (by omega) (by omega) (by omega)) | (unfold stB; exact (decide_eq_false (by omega)).symm) | (unfold stB; exact (decide_eq_true (by omega)).symm)
noncomputable def saRSpec : LSpec := fun la lh => match la, lh with
  | [.sym .i64 z0, .sym .i64 z1, .sym .i64 z2], [] => some (saRR z0 z1 z2)
  | _, _ => none
theorem saRSpec_ok (la : List AV) (lh : List (Nat × AO)) (R : LR) (h : saRSpec la lh = some R) : LocOk Try.prog 39 la lh R := by
  unfold saRSpec at h
  split at h
  · rename_i z0 z1 z2
    cases h
    exact saR_loc z0 z1 z2
  · cases h

end Go.Proofs.Ytephpkfajobhmaa
