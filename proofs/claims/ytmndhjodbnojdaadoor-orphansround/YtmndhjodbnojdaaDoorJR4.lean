/-
  The document's words.
-/
import Derived.Test.YtmndhjodbnojdaaDoorJR4Def
set_option linter.unusedSimpArgs false
set_option linter.unusedVariables false
namespace Go.Proofs.YtmndhjodbnojdaaDoor
open Go.Ev
theorem rash_1 (w : Int) : callB ER4 2000 144 [AV.sym IntKind.u64 w] (rashH w) (rashR w) [] [Hint.b true] =
 some ([-1 = hSlot w,
 fldI w 16 63 = hTag w,
 0 ≤ w,
 w < 18446744073709551616,
 (0 : Int) ≤ (16 : Int),
 (16 : Int) ≤ (63 : Int),
 (63 : Int) ≤ (63 : Int),
 decide (fldI w 0 15 > 256) = true,
 0 ≤ w,
 w < 18446744073709551616,
 (0 : Int) ≤ (0 : Int),
 (0 : Int) ≤ (15 : Int),
 (15 : Int) ≤ (63 : Int)]) := by kernel_rfl
theorem rash_2 (w : Int) : callB ER4 2000 144 [AV.sym IntKind.u64 w] (rashH w) (rashR w) [] [Hint.b false] =
 some ([IntKind.i64.wrap (IntKind.i64.wrap (fldI w 0 15) - 1) = hSlot w,
 fldI w 16 63 = hTag w,
 0 ≤ w,
 w < 18446744073709551616,
 (0 : Int) ≤ (16 : Int),
 (16 : Int) ≤ (63 : Int),
 (63 : Int) ≤ (63 : Int),
 decide (fldI w 0 15 > 256) = false,
 0 ≤ w,
 w < 18446744073709551616,
 (0 : Int) ≤ (0 : Int),
 (0 : Int) ≤ (15 : Int),
 (15 : Int) ≤ (63 : Int)]) := by kernel_rfl
theorem rash_loc (w : Int) : LocOk Tryd.prog 144 [.sym .u64 w] (rashH w) (rashR w) := by
  refine loc_of_call ER4_ok (fun hp => ?_)
  have p0 : 0 ≤ w := hp _ (List.mem_cons_self ..)
  have p1 : w < 18446744073709551616 := hp _ (List.mem_cons_of_mem _ (List.mem_cons_self ..))
  clear hp
  have sl1 : 256 < fldI w 0 15 → (-1 : Int) = hSlot w := fun h => by rw [fld_slot] at h; unfold hSlot; rw [if_neg (by omega)]
  have sl2 : ¬ 256 < fldI w 0 15 → IntKind.i64.wrap (IntKind.i64.wrap (fldI w 0 15) - 1) = hSlot w := fun h => by
    rw [fld_slot] at h ⊢
    unfold hSlot
    rw [i64w (x := w % 65536) (by omega) (by omega), i64w (by omega) (by omega)]
    split <;> omega
  cases h1 : (decide (fldI w 0 15 > 256)) with
  | true =>
    have g1 := of_decide_eq_true h1
    try simp only [Int.ofNat_eq_natCast, ge_iff_le, gt_iff_lt, Int.not_lt, Int.not_le] at g1
    refine ⟨2000, _, _, _, rash_1 .., (ob_cons ?_ (ob_cons ?_ (ob_cons ?_ (ob_cons ?_ (ob_cons (by decide) (ob_cons (by decide) (ob_cons (Int.le_refl _) (ob_cons h1 (ob_cons ?_ (ob_cons ?_ (ob_cons (Int.le_refl _) (ob_cons (by decide) (ob_cons (by decide) ob_nil)))))))))))))⟩
    · exact sl1 (by omega)
    · exact fld_tag p0 p1
    · exact p0
    · exact p1
    · exact p0
    · exact p1
  | false =>
    have g1 := of_decide_eq_false h1
    try simp only [Int.ofNat_eq_natCast, ge_iff_le, gt_iff_lt, Int.not_lt, Int.not_le] at g1
    refine ⟨2000, _, _, _, rash_2 .., (ob_cons ?_ (ob_cons ?_ (ob_cons ?_ (ob_cons ?_ (ob_cons (by decide) (ob_cons (by decide) (ob_cons (Int.le_refl _) (ob_cons h1 (ob_cons ?_ (ob_cons ?_ (ob_cons (Int.le_refl _) (ob_cons (by decide) (ob_cons (by decide) ob_nil)))))))))))))⟩
    · exact sl2 (by omega)
    · exact fld_tag p0 p1
    · exact p0
    · exact p1
    · exact p0
    · exact p1
noncomputable def rashSpec : LSpec := fun la lh => match la, lh with
  | [.sym .u64 w], [] => some (rashR w)
  | _, _ => none
theorem rashSpec_ok (la : List AV) (lh : List (Nat × AO)) (R : LR) (h : rashSpec la lh = some R) : LocOk Tryd.prog 144 la lh R := by
  unfold rashSpec at h
  split at h
  · rename_i w
    cases h
    exact rash_loc w
  · cases h

theorem rhd_1 (s t : Int) : callB ER4 2000 147 [AV.sym IntKind.i64 s, AV.sym IntKind.u64 t] (rhdH s t) (rhdR s t) [] [Hint.b true, Hint.b true] =
 some ([putI (IntKind.u64.wrap (IntKind.u64.wrap s + 1)) t 16 63 = hHead s t,
 0 ≤ IntKind.u64.wrap (IntKind.u64.wrap s + 1),
 IntKind.u64.wrap (IntKind.u64.wrap s + 1) < 65536,
 0 ≤ t,
 t < 18446744073709551616,
 (0 : Int) ≤ (16 : Int),
 (16 : Int) ≤ (63 : Int),
 (63 : Int) ≤ (63 : Int),
 decide (s ≤ 255) = true,
 decide (s ≥ 0) = true]) := by kernel_rfl
theorem rhd_2 (s t : Int) : callB ER4 2000 147 [AV.sym IntKind.i64 s, AV.sym IntKind.u64 t] (rhdH s t) (rhdR s t) [] [Hint.b true, Hint.b false] =
 some ([putI 0 t 16 63 = hHead s t,
 (0 : Int) ≤ (0 : Int),
 (0 : Int) < (65536 : Int),
 0 ≤ t,
 t < 18446744073709551616,
 (0 : Int) ≤ (16 : Int),
 (16 : Int) ≤ (63 : Int),
 (63 : Int) ≤ (63 : Int),
 decide (s ≤ 255) = false,
 decide (s ≥ 0) = true]) := by kernel_rfl
theorem rhd_3 (s t : Int) : callB ER4 2000 147 [AV.sym IntKind.i64 s, AV.sym IntKind.u64 t] (rhdH s t) (rhdR s t) [] [Hint.b false] =
 some ([putI 0 t 16 63 = hHead s t,
 (0 : Int) ≤ (0 : Int),
 (0 : Int) < (65536 : Int),
 0 ≤ t,
 t < 18446744073709551616,
 (0 : Int) ≤ (16 : Int),
 (16 : Int) ≤ (63 : Int),
 (63 : Int) ≤ (63 : Int),
 decide (s ≥ 0) = false]) := by kernel_rfl
theorem rhd_loc (s t : Int) : LocOk Tryd.prog 147 [.sym .i64 s, .sym .u64 t] (rhdH s t) (rhdR s t) := by
  refine loc_of_call ER4_ok (fun hp => ?_)
  have p0 : 0 ≤ t := hp _ (List.mem_cons_self ..)
  have p1 : t < 18446744073709551616 := hp _ (List.mem_cons_of_mem _ (List.mem_cons_self ..))
  clear hp
  have ws : 0 ≤ s → s ≤ 255 → IntKind.u64.wrap (IntKind.u64.wrap s + 1) = s + 1 := fun h h' => by rw [u64w (x := s) (by omega) (by omega), u64w (by omega) (by omega)]
  have hd0 : s < 0 ∨ 255 < s → putI 0 t 16 63 = hHead s t := fun h => by rw [put_head]; unfold hHead; rw [if_neg (by omega)]
  have hd1 : 0 ≤ s → s ≤ 255 → putI (IntKind.u64.wrap (IntKind.u64.wrap s + 1)) t 16 63 = hHead s t := fun h h' => by rw [put_head]; unfold hHead; rw [if_pos (by omega), u64w (x := s) (by omega) (by omega), u64w (by omega) (by omega)]
  cases h1 : (decide (s ≥ 0)) with
  | true =>
    have g1 := of_decide_eq_true h1
    try simp only [Int.ofNat_eq_natCast, ge_iff_le, gt_iff_lt, Int.not_lt, Int.not_le] at g1
    cases h2 : (decide (s ≤ 255)) with
    | true =>
      have g2 := of_decide_eq_true h2
      try simp only [Int.ofNat_eq_natCast, ge_iff_le, gt_iff_lt, Int.not_lt, Int.not_le] at g2
      refine ⟨2000, _, _, _, rhd_1 .., (ob_cons ?_ (ob_cons ?_ (ob_cons ?_ (ob_cons ?_ (ob_cons ?_ (ob_cons (by decide) (ob_cons (by decide) (ob_cons (Int.le_refl _) (ob_cons h2 (ob_cons h1 ob_nil))))))))))⟩
      · exact hd1 (by omega) (by omega)
      · omega
      · omega
      · exact p0
      · exact p1
    | false =>
      have g2 := of_decide_eq_false h2
      try simp only [Int.ofNat_eq_natCast, ge_iff_le, gt_iff_lt, Int.not_lt, Int.not_le] at g2
      refine ⟨2000, _, _, _, rhd_2 .., (ob_cons ?_ (ob_cons (Int.le_refl _) (ob_cons (by decide) (ob_cons ?_ (ob_cons ?_ (ob_cons (by decide) (ob_cons (by decide) (ob_cons (Int.le_refl _) (ob_cons h2 (ob_cons h1 ob_nil))))))))))⟩
      · exact hd0 (by omega)
      · exact p0
      · exact p1
  | false =>
    have g1 := of_decide_eq_false h1
    try simp only [Int.ofNat_eq_natCast, ge_iff_le, gt_iff_lt, Int.not_lt, Int.not_le] at g1
    refine ⟨2000, _, _, _, rhd_3 .., (ob_cons ?_ (ob_cons (Int.le_refl _) (ob_cons (by decide) (ob_cons ?_ (ob_cons ?_ (ob_cons (by decide) (ob_cons (by decide) (ob_cons (Int.le_refl _) (ob_cons h1 ob_nil)))))))))⟩
    · exact hd0 (by omega)
    · exact p0
    · exact p1
noncomputable def rhdSpec : LSpec := fun la lh => match la, lh with
  | [.sym .i64 s, .sym .u64 t], [] => some (rhdR s t)
  | _, _ => none
theorem rhdSpec_ok (la : List AV) (lh : List (Nat × AO)) (R : LR) (h : rhdSpec la lh = some R) : LocOk Tryd.prog 147 la lh R := by
  unfold rhdSpec at h
  split at h
  · rename_i s t
    cases h
    exact rhd_loc s t
  · cases h

theorem rahr_1 (w : Int) : callB ER4 2000 148 [AV.sym IntKind.u64 w] (rahrH w) (rahrR w) [] [Hint.b true] =
 some ([4 = hdrS w,
 IntKind.u32.wrap (fldI w 3 34) = hdrG w,
 0 ≤ w,
 w < 18446744073709551616,
 (0 : Int) ≤ (3 : Int),
 (3 : Int) ≤ (34 : Int),
 (34 : Int) ≤ (63 : Int),
 decide (IntKind.u8.wrap (fldI w 0 2) > 4) = true,
 0 ≤ w,
 w < 18446744073709551616,
 (0 : Int) ≤ (0 : Int),
 (0 : Int) ≤ (2 : Int),
 (2 : Int) ≤ (63 : Int)]) := by kernel_rfl
theorem rahr_2 (w : Int) : callB ER4 2000 148 [AV.sym IntKind.u64 w] (rahrH w) (rahrR w) [] [Hint.b false] =
 some ([IntKind.u8.wrap (fldI w 0 2) = hdrS w,
 IntKind.u32.wrap (fldI w 3 34) = hdrG w,
 0 ≤ w,
 w < 18446744073709551616,
 (0 : Int) ≤ (3 : Int),
 (3 : Int) ≤ (34 : Int),
 (34 : Int) ≤ (63 : Int),
 decide (IntKind.u8.wrap (fldI w 0 2) > 4) = false,
 0 ≤ w,
 w < 18446744073709551616,
 (0 : Int) ≤ (0 : Int),
 (0 : Int) ≤ (2 : Int),
 (2 : Int) ≤ (63 : Int)]) := by kernel_rfl
theorem rahr_loc (w : Int) : LocOk Tryd.prog 148 [.sym .u64 w] (rahrH w) (rahrR w) := by
  refine loc_of_call ER4_ok (fun hp => ?_)
  have p0 : 0 ≤ w := hp _ (List.mem_cons_self ..)
  have p1 : w < 18446744073709551616 := hp _ (List.mem_cons_of_mem _ (List.mem_cons_self ..))
  clear hp
  have s1 : 4 < IntKind.u8.wrap (fldI w 0 2) → (4 : Int) = hdrS w := fun h => by rw [fld_hdrS, u8m] at h; unfold hdrS; rw [if_pos (by omega)]
  have s2 : ¬ 4 < IntKind.u8.wrap (fldI w 0 2) → IntKind.u8.wrap (fldI w 0 2) = hdrS w := fun h => by rw [fld_hdrS, u8m] at *; unfold hdrS; rw [if_neg (by omega)]; omega
  have g1 : IntKind.u32.wrap (fldI w 3 34) = hdrG w := by rw [fld_hdrG, u32m]; unfold hdrG; omega
  cases h1 : (decide (IntKind.u8.wrap (fldI w 0 2) > 4)) with
  | true =>
    have g1 := of_decide_eq_true h1
    try simp only [Int.ofNat_eq_natCast, ge_iff_le, gt_iff_lt, Int.not_lt, Int.not_le] at g1
    refine ⟨2000, _, _, _, rahr_1 .., (ob_cons ?_ (ob_cons ?_ (ob_cons ?_ (ob_cons ?_ (ob_cons (by decide) (ob_cons (by decide) (ob_cons (by decide) (ob_cons h1 (ob_cons ?_ (ob_cons ?_ (ob_cons (Int.le_refl _) (ob_cons (by decide) (ob_cons (by decide) ob_nil)))))))))))))⟩
    · exact s1 (by omega)
    · omega
    · exact p0
    · exact p1
    · exact p0
    · exact p1
  | false =>
    have g1 := of_decide_eq_false h1
    try simp only [Int.ofNat_eq_natCast, ge_iff_le, gt_iff_lt, Int.not_lt, Int.not_le] at g1
    refine ⟨2000, _, _, _, rahr_2 .., (ob_cons ?_ (ob_cons ?_ (ob_cons ?_ (ob_cons ?_ (ob_cons (by decide) (ob_cons (by decide) (ob_cons (by decide) (ob_cons h1 (ob_cons ?_ (ob_cons ?_ (ob_cons (Int.le_refl _) (ob_cons (by decide) (ob_cons (by decide) ob_nil)))))))))))))⟩
    · exact s2 (by omega)
    · omega
    · exact p0
    · exact p1
    · exact p0
    · exact p1
noncomputable def rahrSpec : LSpec := fun la lh => match la, lh with
  | [.sym .u64 w], [] => some (rahrR w)
  | _, _ => none
theorem rahrSpec_ok (la : List AV) (lh : List (Nat × AO)) (R : LR) (h : rahrSpec la lh = some R) : LocOk Tryd.prog 148 la lh R := by
  unfold rahrSpec at h
  split at h
  · rename_i w
    cases h
    exact rahr_loc w
  · cases h

end Go.Proofs.YtmndhjodbnojdaaDoor
