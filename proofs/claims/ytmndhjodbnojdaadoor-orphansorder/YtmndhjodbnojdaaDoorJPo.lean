/-
  NewGive: its contract.
-/
import Derived.Test.YtmndhjodbnojdaaDoorJPnDef
set_option linter.unusedSimpArgs false
set_option linter.unusedVariables false
namespace Go.Proofs.YtmndhjodbnojdaaDoor
open Go.Ev
theorem ngv_1 (n l : Nat) (r : Bool) (f : Nat → Nat → AV) (c : Option Nat) : callB EIn 2000 34 [AV.ss 6 1 0 n c] (ngvH n l r f c) (ngvR n l r f c) [(2, Src.nm 3), (3, Src.nm 2)] [Hint.b false, Hint.b true] =
 some ([(0 : Nat) = 0,
 (0 : Nat) = 0,
 r = r,
 l ≤ l,
 f = f ∧ plainSh [CK.int IntKind.i64, CK.int IntKind.u32, CK.bool, CK.int IntKind.u64, CK.int IntKind.u64, CK.int IntKind.u64] = true ∨ ∀ (i : Nat), i < l → rowOb [CK.int IntKind.i64, CK.int IntKind.u32, CK.bool, CK.int IntKind.u64, CK.int IntKind.u64, CK.int IntKind.u64] 0 (f i) (f i),
 2 = ngL n,
 (0 : Int) = 0,
 (0 : Nat) = 0,
 n = n,
 (none : Option Nat) = none,
 (0 : Int) = 0,
 false = false,
 n ≤ n,
 nF (yK f) = nF (yK f) ∧ plainSh [CK.int IntKind.i64] = true ∨ ∀ (i : Nat), i < n → rowOb [CK.int IntKind.i64] 0 (nF (yK f) i) (nF (yK f) i),
 (Int.ofNat n == 1) = true,
 (!true) = false,
 n ≤ l,
 GvMay n f]) := by kernel_rfl
theorem ngv_2 (n l : Nat) (r : Bool) (f : Nat → Nat → AV) (c : Option Nat) : callB EIn 2000 34 [AV.ss 6 1 0 n c] (ngvH n l r f c) (ngvR n l r f c) [(2, Src.nm 3), (3, Src.nm 2)] [Hint.b false, Hint.b false] =
 some ([(0 : Nat) = 0,
 (0 : Nat) = 0,
 r = r,
 l ≤ l,
 f = f ∧ plainSh [CK.int IntKind.i64, CK.int IntKind.u32, CK.bool, CK.int IntKind.u64, CK.int IntKind.u64, CK.int IntKind.u64] = true ∨ ∀ (i : Nat), i < l → rowOb [CK.int IntKind.i64, CK.int IntKind.u32, CK.bool, CK.int IntKind.u64, CK.int IntKind.u64, CK.int IntKind.u64] 0 (f i) (f i),
 1 = ngL n,
 (0 : Int) = 0,
 (0 : Nat) = 0,
 n = n,
 (none : Option Nat) = none,
 (0 : Int) = 0,
 false = false,
 n ≤ n,
 nF (yK f) = nF (yK f) ∧ plainSh [CK.int IntKind.i64] = true ∨ ∀ (i : Nat), i < n → rowOb [CK.int IntKind.i64] 0 (nF (yK f) i) (nF (yK f) i),
 (Int.ofNat n == 1) = false,
 (!true) = false,
 n ≤ l,
 GvMay n f]) := by kernel_rfl
theorem ngv_loc (n l : Nat) (r : Bool) (f : Nat → Nat → AV) (c : Option Nat) : LocOk Tryd.prog 34 [.ss 6 1 0 n c] (ngvH n l r f c) (ngvR n l r f c) := by
  refine loc_of_call EIn_ok (fun hp => ?_)
  have hl : n ≤ l := hp _ (List.mem_cons_self ..)
  have hv : GvMay n f := hp _ (List.mem_cons_of_mem _ (List.mem_cons_self ..))
  clear hp
  cases h1 : (Int.ofNat n == 1) with
  | true =>
    refine ⟨2000, _, _, _, ngv_1 .., (ob_cons rfl (ob_cons rfl (ob_cons rfl (ob_cons (Nat.le_refl _) (ob_cons (.inl ⟨rfl, rfl⟩) (ob_cons ?_ (ob_cons rfl (ob_cons rfl (ob_cons rfl (ob_cons rfl (ob_cons rfl (ob_cons rfl (ob_cons (Nat.le_refl _) (ob_cons (.inl ⟨rfl, rfl⟩) (ob_cons h1 (ob_cons ?_ (ob_cons ?_ (ob_cons ?_ ob_nil))))))))))))))))))⟩
    ·
      first | exact hl | exact hv | exact (ngL_1 h1).symm | exact (ngL_2 h1).symm | exact rfl | exact .inl ⟨rfl, rfl⟩ | (simp; done) | rfl
    ·
      first | exact hl | exact hv | exact (ngL_1 h1).symm | exact (ngL_2 h1).symm | exact rfl | exact .inl ⟨rfl, rfl⟩ | (simp; done) | (apply Nat.ble_eq_true_of_le; omega) | (simp [Nat.blt_eq]; omega)
    ·
      first | exact hl | exact hv | exact (ngL_1 h1).symm | exact (ngL_2 h1).symm | exact rfl | exact .inl ⟨rfl, rfl⟩ | (simp; done) | exact Nat.le_refl _ | omega
    ·
      first | exact hl | exact hv | exact (ngL_1 h1).symm | exact (ngL_2 h1).symm | exact rfl | exact .inl ⟨rfl, rfl⟩ | (simp; done) | trivial
  | false =>
    refine ⟨2000, _, _, _, ngv_2 .., (ob_cons rfl (ob_cons rfl (ob_cons rfl (ob_cons (Nat.le_refl _) (ob_cons (.inl ⟨rfl, rfl⟩) (ob_cons ?_ (ob_cons rfl (ob_cons rfl (ob_cons rfl (ob_cons rfl (ob_cons rfl (ob_cons rfl (ob_cons (Nat.le_refl _) (ob_cons (.inl ⟨rfl, rfl⟩) (ob_cons h1 (ob_cons ?_ (ob_cons ?_ (ob_cons ?_ ob_nil))))))))))))))))))⟩
    ·
      first | exact hl | exact hv | exact (ngL_1 h1).symm | exact (ngL_2 h1).symm | exact rfl | exact .inl ⟨rfl, rfl⟩ | (simp; done) | rfl
    ·
      first | exact hl | exact hv | exact (ngL_1 h1).symm | exact (ngL_2 h1).symm | exact rfl | exact .inl ⟨rfl, rfl⟩ | (simp; done) | (apply Nat.ble_eq_true_of_le; omega) | (simp [Nat.blt_eq]; omega)
    ·
      first | exact hl | exact hv | exact (ngL_1 h1).symm | exact (ngL_2 h1).symm | exact rfl | exact .inl ⟨rfl, rfl⟩ | (simp; done) | exact Nat.le_refl _ | omega
    ·
      first | exact hl | exact hv | exact (ngL_1 h1).symm | exact (ngL_2 h1).symm | exact rfl | exact .inl ⟨rfl, rfl⟩ | (simp; done) | trivial
noncomputable def ngvSpec : LSpec := fun la lh => match la, lh with
  | [.ss z1 z2 z3 n c], [(z4, .arr z5 z6 r l f)] =>
    match Nat.beq z1 6 && (Nat.beq z2 1 && (Nat.beq z3 0 && (Nat.beq z4 1 && (Nat.beq z5 6 && (shBeq z6 ySh))))) with
    | true => some (ngvR n l r f c)
    | false => none
  | _, _ => none
theorem ngvSpec_ok (la : List AV) (lh : List (Nat × AO)) (R : LR) (h : ngvSpec la lh = some R) : LocOk Tryd.prog 34 la lh R := by
  unfold ngvSpec at h
  split at h
  · rename_i z1 z2 z3 n c z4 z5 z6 r l f
    split at h
    · rename_i hb
      simp only [Bool.and_eq_true] at hb
      obtain ⟨e1, e2, e3, e4, e5, e6⟩ := hb
      have e1 := Nat.eq_of_beq_eq_true e1; subst e1
      have e2 := Nat.eq_of_beq_eq_true e2; subst e2
      have e3 := Nat.eq_of_beq_eq_true e3; subst e3
      have e4 := Nat.eq_of_beq_eq_true e4; subst e4
      have e5 := Nat.eq_of_beq_eq_true e5; subst e5
      have e6 := shBeq_eq e6; subst e6
      cases h
      exact ngv_loc n l r f c
    · cases h
  · cases h

end Go.Proofs.YtmndhjodbnojdaaDoor
