/-
  Index, where it is not there.
-/
import Derived.Test.YtmndhjodbnojdaaDoorJOu
set_option linter.unusedSimpArgs false
set_option linter.unusedVariables false
namespace Go.Proofs.YtmndhjodbnojdaaDoor
open Go.Ev
theorem idnn_2 (n l : Nat) (r : Bool) (f : Nat → Nat → AV) (s : Int) (ii : Nat) : roundB EIx 2000 idnL ((idnU n l r f s).hp) [] (idnT n l r f s ii) [Hint.b true, Hint.b false] (idnT n l r f s (ii + 1)) =
 some (Ex.norm, [(0 : Nat) = 0,
 n = n,
 (none : Option Nat) = none,
 s = s,
 (0 : Nat) = 0,
 n = n,
 (none : Option Nat) = none,
 Int.ofNat n = Int.ofNat n,
 IntKind.i64.wrap (Int.ofNat ii + 1) = Int.ofNat (ii + 1),
 r = r,
 l ≤ l,
 f = f ∧ plainSh [CK.int IntKind.i64] = true ∨ ∀ (i : Nat), i < l → rowOb [CK.int IntKind.i64] 0 (f i) (f i),
 (s == avInt (f (0 + ii) 0)) = false,
 (0 + ii).blt l = true,
 (ii.blt n && decide (0 ≤ Int.ofNat ii)) = true,
 decide (Int.ofNat ii < Int.ofNat n) = true]) := by kernel_rfl
theorem idnn_3 (n l : Nat) (r : Bool) (f : Nat → Nat → AV) (s : Int) (ii : Nat) : roundB EIx 2000 idnL ((idnU n l r f s).hp) [] (idnT n l r f s ii) [Hint.b false] (idnS n l r f s) =
 some (Ex.exit 0, [r = r,
 l ≤ l,
 f = f ∧ plainSh [CK.int IntKind.i64] = true ∨ ∀ (i : Nat), i < l → rowOb [CK.int IntKind.i64] 0 (f i) (f i),
 decide (Int.ofNat ii < Int.ofNat n) = false]) := by kernel_rfl
theorem idni_1 (n l : Nat) (r : Bool) (f : Nat → Nat → AV) (s : Int) : castSt ((idnU n l r f s).hp) [] (idnU n l r f s) (idnT n l r f s 0) =
 some ([(0 : Nat) = 0,
 n = n,
 (none : Option Nat) = none,
 s = s,
 (0 : Nat) = 0,
 n = n,
 (none : Option Nat) = none,
 Int.ofNat n = Int.ofNat n,
 (0 : Int) = 0,
 r = r,
 l ≤ l,
 f = f ∧ plainSh [CK.int IntKind.i64] = true ∨ ∀ (i : Nat), i < l → rowOb [CK.int IntKind.i64] 0 (f i) (f i)]) := by kernel_rfl
theorem idncn_1 (n l : Nat) (r : Bool) (f : Nat → Nat → AV) (s : Int) : callB EIx 2000 167 [AV.ss 1 1 0 n none, AV.sym IntKind.i64 s] (idnH n l r f s) (idnR n l r f s) [] [Hint.lp [0, 1, 6, 7, 8] (Ex.exit 0) (idnS n l r f s).tmps (idnH n l r f s) 2 []] =
 some ([(-1 : Int) = -1,
 r = r,
 l ≤ l,
 f = f ∧ plainSh [CK.int IntKind.i64] = true ∨ ∀ (i : Nat), i < l → rowOb [CK.int IntKind.i64] 0 (f i) (f i),
 idnLN n l r f s]) := by kernel_rfl
theorem idn_lpn (n l : Nat) (r : Bool) (f : Nat → Nat → AV) (s : Int) (hl : n ≤ l) (hm : n ≤ 1000000) (qno : ∀ i, i < n → idnP n l r f s i = false)  : idnLN n l r f s := by
  refine loop_rule EIx_ok (I := Nat) (fun i => idnT n l r f s i) (fun i => n - i) (fun i => i ≤ n) ?_ (fun ii hi => ?_)
  ·
    refine ⟨0, [], _, Nat.zero_le _, idni_1 .., (ob_cons rfl (ob_cons rfl (ob_cons rfl (ob_cons rfl (ob_cons rfl (ob_cons rfl (ob_cons rfl (ob_cons rfl (ob_cons rfl (ob_cons rfl (ob_cons (Nat.le_refl _) (ob_cons (.inl ⟨rfl, rfl⟩) ob_nil))))))))))))⟩
  cases h1 : (decide (Int.ofNat ii < Int.ofNat n)) with
  | true =>
    have g1 := of_decide_eq_true h1
    try simp only [Int.ofNat_eq_natCast, ge_iff_le, gt_iff_lt, Int.not_lt, Int.not_le] at g1
    refine round_norm (s0 := idnU n l r f s) (ii + 1) (idnn_2 ..) (ob_cons rfl (ob_cons rfl (ob_cons rfl (ob_cons rfl (ob_cons rfl (ob_cons rfl (ob_cons rfl (ob_cons rfl (ob_cons ?_ (ob_cons rfl (ob_cons (Nat.le_refl _) (ob_cons (.inl ⟨rfl, rfl⟩) (ob_cons ?_ (ob_cons ?_ (ob_cons ?_ (ob_cons h1 ob_nil)))))))))))))))) (by show ii + 1 ≤ n; omega) (by show n - (ii + 1) < n - ii; omega)
    ·
      first | exact wrap_nat64 _ (by simp; omega) (by simp; omega) | (simp; omega) | (have q := qno ii (by omega); unfold idnP at q; (try simp only [h1] at q); (try simp [and2] at q); (try simp); first | exact q | omega | (simp_all; done))
    ·
      first | (apply Nat.ble_eq_true_of_le; omega) | (simp [Nat.blt_eq]; omega) | (simp; omega) | (have q := qno ii (by omega); unfold idnP at q; (try simp only [h1] at q); (try simp [and2] at q); (try simp); first | exact q | omega | (simp_all; done))
    ·
      first | (apply Nat.ble_eq_true_of_le; omega) | (simp [Nat.blt_eq]; omega) | (simp; omega) | (have q := qno ii (by omega); unfold idnP at q; (try simp only [h1] at q); (try simp [and2] at q); (try simp); first | exact q | omega | (simp_all; done))
    ·
      first | (apply Nat.ble_eq_true_of_le; omega) | (simp [Nat.blt_eq]; omega) | (simp; omega) | (have q := qno ii (by omega); unfold idnP at q; (try simp only [h1] at q); (try simp [and2] at q); (try simp); first | exact q | omega | (simp_all; done))
  | false =>
    have g1 := of_decide_eq_false h1
    try simp only [Int.ofNat_eq_natCast, ge_iff_le, gt_iff_lt, Int.not_lt, Int.not_le] at g1
    refine round_exit (s0 := idnU n l r f s) (idnn_3 ..) (by simp) (ob_cons rfl (ob_cons (Nat.le_refl _) (ob_cons (.inl ⟨rfl, rfl⟩) (ob_cons h1 ob_nil))))
theorem idn_loc (n l : Nat) (r : Bool) (f : Nat → Nat → AV) (s : Int) : LocOk Tryd.prog 167 [.ss 1 1 0 n none, .sym .i64 s] (idnH n l r f s) (idnR n l r f s) := by
  refine loc_of_call EIx_ok (fun hp => ?_)
  have hl : n ≤ l := hp _ (List.mem_cons_self ..)
  have hm : n ≤ 1000000 := hp _ (List.mem_cons_of_mem _ (List.mem_cons_self ..))
  have qno : ∀ i, i < n → idnP n l r f s i = false := hp _ (List.mem_cons_of_mem _ (List.mem_cons_of_mem _ (List.mem_cons_self ..)))
  clear hp
  have hln := idn_lpn n l r f s hl hm qno
  refine ⟨2000, _, _, _, idncn_1 .., (ob_cons rfl (ob_cons rfl (ob_cons (Nat.le_refl _) (ob_cons (.inl ⟨rfl, rfl⟩) (ob_cons ?_ ob_nil)))))⟩
  ·
    first | trivial | exact hln | (simp only [srch_no qno, srchB_no qno]; done) | (rw [srch_no qno]; done)
noncomputable def idnSpec : LSpec := fun la lh => match la, lh with
  | [.ss z1 z2 z3 n none, .sym .i64 s], [(z4, .arr z5 z6 r l f)] =>
    match Nat.beq z1 1 && (Nat.beq z2 1 && (Nat.beq z3 0 && (Nat.beq z4 1 && (Nat.beq z5 1 && (shBeq z6 iSh))))) with
    | true => some (idnR n l r f s)
    | false => none
  | _, _ => none
theorem idnSpec_ok (la : List AV) (lh : List (Nat × AO)) (R : LR) (h : idnSpec la lh = some R) : LocOk Tryd.prog 167 la lh R := by
  unfold idnSpec at h
  split at h
  · rename_i z1 z2 z3 n s z4 z5 z6 r l f
    split at h
    · rename_i hb
      simp only [Bool.and_eq_true] at hb
      obtain ⟨e1, e2, e3, e4, e5, e6⟩ := hb
      have e1 := Nat.eq_of_beq_eq_true e1; subst e1
      have e2 := Nat.eq_of_beq_eq_true e2; subst e2
      have e3 := Nat.eq_of_beq_eq_true e3; subst e3
      have e4 := Nat.eq_of_beq_eq_true e4; subst e4
      have e5 := Nat.eq_of_beq_eq_true e5; subst e5
      have e6 := shBeq_eq e6; subst e6
      cases h
      exact idn_loc n l r f s
    · cases h
  · cases h

end Go.Proofs.YtmndhjodbnojdaaDoor
