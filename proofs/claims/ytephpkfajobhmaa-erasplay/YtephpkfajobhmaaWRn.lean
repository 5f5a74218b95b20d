/-
  ErasPlay: what begins an operation.
-/
import Derived.Test.YtephpkfajobhmaaWRnDef
set_option linter.unusedSimpArgs false
set_option linter.unusedVariables false
namespace Go.Proofs.Ytephpkfajobhmaa
open Go.Ev
theorem rn0_1 (w : Int) : callB EM0 2000 68 [AV.sym IntKind.i64 w] (rn0H w) (rn0R w) [(1, Src.nm 1)] [Hint.b true] =
 some ([(0 : Nat) = 0,
 (0 : Nat) = 0,
 0 = inN w 3,
 w = w,
 (0 : Int) = 0,
 decide (w < 0) = true]) := by kernel_rfl
theorem rn0_2 (w : Int) : callB EM0 2000 68 [AV.sym IntKind.i64 w] (rn0H w) (rn0R w) [(1, Src.nm 1)] [Hint.b false, Hint.b true] =
 some ([(0 : Nat) = 0,
 (0 : Nat) = 0,
 0 = inN w 3,
 w = w,
 (0 : Int) = 0,
 decide (w ≥ 16) = true,
 decide (w < 0) = false]) := by kernel_rfl
theorem rn0_3 (w : Int) : callB EM0 2000 68 [AV.sym IntKind.i64 w] (rn0H w) (rn0R w) [(1, Src.nm 1)] [Hint.b false, Hint.b false] =
 some ([(0 : Nat) = 0,
 (0 : Nat) = 0,
 3 = inN w 3,
 w = w,
 (0 : Int) = 0,
 decide (w ≥ 16) = false,
 decide (w < 0) = false]) := by kernel_rfl
theorem rn0_loc (w : Int) : LocOk Try.prog 68 [.sym .i64 w] (rn0H w) (rn0R w) := by
  refine loc_of_call EM0_ok (fun hp => ?_)
  clear hp
  cases h1 : (decide (w < 0)) with
  | true =>
    have g1 := of_decide_eq_true h1
    try simp only [Int.ofNat_eq_natCast, ge_iff_le, gt_iff_lt, Int.not_lt, Int.not_le] at g1
    refine ⟨2000, _, _, _, rn0_1 .., (ob_cons rfl (ob_cons rfl (ob_cons ?_ (ob_cons rfl (ob_cons rfl (ob_cons h1 ob_nil))))))⟩
    · exact (inN_0 (by omega)).symm
  | false =>
    have g1 := of_decide_eq_false h1
    try simp only [Int.ofNat_eq_natCast, ge_iff_le, gt_iff_lt, Int.not_lt, Int.not_le] at g1
    cases h2 : (decide (w ≥ 16)) with
    | true =>
      have g2 := of_decide_eq_true h2
      try simp only [Int.ofNat_eq_natCast, ge_iff_le, gt_iff_lt, Int.not_lt, Int.not_le] at g2
      refine ⟨2000, _, _, _, rn0_2 .., (ob_cons rfl (ob_cons rfl (ob_cons ?_ (ob_cons rfl (ob_cons rfl (ob_cons h2 (ob_cons h1 ob_nil)))))))⟩
      · exact (inN_0 (by omega)).symm
    | false =>
      have g2 := of_decide_eq_false h2
      try simp only [Int.ofNat_eq_natCast, ge_iff_le, gt_iff_lt, Int.not_lt, Int.not_le] at g2
      refine ⟨2000, _, _, _, rn0_3 .., (ob_cons rfl (ob_cons rfl (ob_cons ?_ (ob_cons rfl (ob_cons rfl (ob_cons h2 (ob_cons h1 ob_nil)))))))⟩
      · exact (inN_1 (by omega) (by omega)).symm
noncomputable def rn0Spec : LSpec := fun la lh => match la, lh with
  | [.sym .i64 w], [] => some (rn0R w)
  | _, _ => none
theorem rn0Spec_ok (la : List AV) (lh : List (Nat × AO)) (R : LR) (h : rn0Spec la lh = some R) : LocOk Try.prog 68 la lh R := by
  unfold rn0Spec at h
  split at h
  · rename_i w
    cases h
    exact rn0_loc w
  · cases h

theorem rn1_1 (w : Int) : callB EM0 2000 69 [AV.sym IntKind.i64 w] (rn1H w) (rn1R w) [(1, Src.nm 1)] [Hint.b true] =
 some ([(0 : Nat) = 0,
 (0 : Nat) = 0,
 0 = inN w 2,
 w = w,
 decide (w < 0) = true]) := by kernel_rfl
theorem rn1_2 (w : Int) : callB EM0 2000 69 [AV.sym IntKind.i64 w] (rn1H w) (rn1R w) [(1, Src.nm 1)] [Hint.b false, Hint.b true] =
 some ([(0 : Nat) = 0,
 (0 : Nat) = 0,
 0 = inN w 2,
 w = w,
 decide (w ≥ 16) = true,
 decide (w < 0) = false]) := by kernel_rfl
theorem rn1_3 (w : Int) : callB EM0 2000 69 [AV.sym IntKind.i64 w] (rn1H w) (rn1R w) [(1, Src.nm 1)] [Hint.b false, Hint.b false] =
 some ([(0 : Nat) = 0,
 (0 : Nat) = 0,
 2 = inN w 2,
 w = w,
 decide (w ≥ 16) = false,
 decide (w < 0) = false]) := by kernel_rfl
theorem rn1_loc (w : Int) : LocOk Try.prog 69 [.sym .i64 w] (rn1H w) (rn1R w) := by
  refine loc_of_call EM0_ok (fun hp => ?_)
  clear hp
  cases h1 : (decide (w < 0)) with
  | true =>
    have g1 := of_decide_eq_true h1
    try simp only [Int.ofNat_eq_natCast, ge_iff_le, gt_iff_lt, Int.not_lt, Int.not_le] at g1
    refine ⟨2000, _, _, _, rn1_1 .., (ob_cons rfl (ob_cons rfl (ob_cons ?_ (ob_cons rfl (ob_cons h1 ob_nil)))))⟩
    · exact (inN_0 (by omega)).symm
  | false =>
    have g1 := of_decide_eq_false h1
    try simp only [Int.ofNat_eq_natCast, ge_iff_le, gt_iff_lt, Int.not_lt, Int.not_le] at g1
    cases h2 : (decide (w ≥ 16)) with
    | true =>
      have g2 := of_decide_eq_true h2
      try simp only [Int.ofNat_eq_natCast, ge_iff_le, gt_iff_lt, Int.not_lt, Int.not_le] at g2
      refine ⟨2000, _, _, _, rn1_2 .., (ob_cons rfl (ob_cons rfl (ob_cons ?_ (ob_cons rfl (ob_cons h2 (ob_cons h1 ob_nil))))))⟩
      · exact (inN_0 (by omega)).symm
    | false =>
      have g2 := of_decide_eq_false h2
      try simp only [Int.ofNat_eq_natCast, ge_iff_le, gt_iff_lt, Int.not_lt, Int.not_le] at g2
      refine ⟨2000, _, _, _, rn1_3 .., (ob_cons rfl (ob_cons rfl (ob_cons ?_ (ob_cons rfl (ob_cons h2 (ob_cons h1 ob_nil))))))⟩
      · exact (inN_1 (by omega) (by omega)).symm
noncomputable def rn1Spec : LSpec := fun la lh => match la, lh with
  | [.sym .i64 w], [] => some (rn1R w)
  | _, _ => none
theorem rn1Spec_ok (la : List AV) (lh : List (Nat × AO)) (R : LR) (h : rn1Spec la lh = some R) : LocOk Try.prog 69 la lh R := by
  unfold rn1Spec at h
  split at h
  · rename_i w
    cases h
    exact rn1_loc w
  · cases h

theorem rn2_1 (w hh : Int) : callB EM0 2000 70 [AV.sym IntKind.i64 w, AV.sym IntKind.u64 hh] (rn2H w hh) (rn2R w hh) [(1, Src.nm 1)] [Hint.b true] =
 some ([(0 : Nat) = 0,
 (0 : Nat) = 0,
 0 = inN w 2,
 w = w,
 hh = hh,
 (0 : Int) = 0,
 false = false,
 decide (w < 0) = true]) := by kernel_rfl
theorem rn2_2 (w hh : Int) : callB EM0 2000 70 [AV.sym IntKind.i64 w, AV.sym IntKind.u64 hh] (rn2H w hh) (rn2R w hh) [(1, Src.nm 1)] [Hint.b false, Hint.b true] =
 some ([(0 : Nat) = 0,
 (0 : Nat) = 0,
 0 = inN w 2,
 w = w,
 hh = hh,
 (0 : Int) = 0,
 false = false,
 decide (w ≥ 16) = true,
 decide (w < 0) = false]) := by kernel_rfl
theorem rn2_3 (w hh : Int) : callB EM0 2000 70 [AV.sym IntKind.i64 w, AV.sym IntKind.u64 hh] (rn2H w hh) (rn2R w hh) [(1, Src.nm 1)] [Hint.b false, Hint.b false] =
 some ([(0 : Nat) = 0,
 (0 : Nat) = 0,
 2 = inN w 2,
 w = w,
 hh = hh,
 (0 : Int) = 0,
 false = false,
 decide (w ≥ 16) = false,
 decide (w < 0) = false]) := by kernel_rfl
theorem rn2_loc (w hh : Int) : LocOk Try.prog 70 [.sym .i64 w, .sym .u64 hh] (rn2H w hh) (rn2R w hh) := by
  refine loc_of_call EM0_ok (fun hp => ?_)
  clear hp
  cases h1 : (decide (w < 0)) with
  | true =>
    have g1 := of_decide_eq_true h1
    try simp only [Int.ofNat_eq_natCast, ge_iff_le, gt_iff_lt, Int.not_lt, Int.not_le] at g1
    refine ⟨2000, _, _, _, rn2_1 .., (ob_cons rfl (ob_cons rfl (ob_cons ?_ (ob_cons rfl (ob_cons rfl (ob_cons rfl (ob_cons rfl (ob_cons h1 ob_nil))))))))⟩
    · exact (inN_0 (by omega)).symm
  | false =>
    have g1 := of_decide_eq_false h1
    try simp only [Int.ofNat_eq_natCast, ge_iff_le, gt_iff_lt, Int.not_lt, Int.not_le] at g1
    cases h2 : (decide (w ≥ 16)) with
    | true =>
      have g2 := of_decide_eq_true h2
      try simp only [Int.ofNat_eq_natCast, ge_iff_le, gt_iff_lt, Int.not_lt, Int.not_le] at g2
      refine ⟨2000, _, _, _, rn2_2 .., (ob_cons rfl (ob_cons rfl (ob_cons ?_ (ob_cons rfl (ob_cons rfl (ob_cons rfl (ob_cons rfl (ob_cons h2 (ob_cons h1 ob_nil)))))))))⟩
      · exact (inN_0 (by omega)).symm
    | false =>
      have g2 := of_decide_eq_false h2
      try simp only [Int.ofNat_eq_natCast, ge_iff_le, gt_iff_lt, Int.not_lt, Int.not_le] at g2
      refine ⟨2000, _, _, _, rn2_3 .., (ob_cons rfl (ob_cons rfl (ob_cons ?_ (ob_cons rfl (ob_cons rfl (ob_cons rfl (ob_cons rfl (ob_cons h2 (ob_cons h1 ob_nil)))))))))⟩
      · exact (inN_1 (by omega) (by omega)).symm
noncomputable def rn2Spec : LSpec := fun la lh => match la, lh with
  | [.sym .i64 w, .sym .u64 hh], [] => some (rn2R w hh)
  | _, _ => none
theorem rn2Spec_ok (la : List AV) (lh : List (Nat × AO)) (R : LR) (h : rn2Spec la lh = some R) : LocOk Try.prog 70 la lh R := by
  unfold rn2Spec at h
  split at h
  · rename_i w hh
    cases h
    exact rn2_loc w hh
  · cases h

theorem rn3_1 : callB EM0 2000 43 [] rn3H rn3R [(1, Src.nm 1)] [] =
 some ([(0 : Nat) = 0,
 (0 : Nat) = 0,
 (2 : Int) = 2,
 (0 : Int) = 0,
 false = false]) := by kernel_rfl
theorem rn3_loc  : LocOk Try.prog 43 [] (rn3H ) (rn3R ) := by
  refine loc_of_call EM0_ok (fun hp => ?_)
  clear hp
  refine ⟨2000, _, _, _, rn3_1 .., (ob_cons rfl (ob_cons rfl (ob_cons rfl (ob_cons rfl (ob_cons rfl ob_nil)))))⟩
noncomputable def rn3Spec : LSpec := fun la lh => match la, lh with
  | [], [] => some (rn3R)
  | _, _ => none
theorem rn3Spec_ok (la : List AV) (lh : List (Nat × AO)) (R : LR) (h : rn3Spec la lh = some R) : LocOk Try.prog 43 la lh R := by
  unfold rn3Spec at h
  split at h
  · cases h
    exact rn3_loc
  · cases h

theorem rnr_1 (k w hh : Int) : callB EM0 2000 67 [AV.sym IntKind.i64 k, AV.sym IntKind.i64 w, AV.sym IntKind.u64 hh] (rnrH k w hh) (rnrR k w hh) [(1, Src.nm 1)] [Hint.b true, Hint.b true, Hint.b true] =
 some ([(0 : Nat) = 0,
 (0 : Nat) = 0,
 k = k,
 w = w,
 0 = nN k w,
 hh = nH k hh,
 false = false,
 (0 : Int) = 0,
 decide (w < 0) = true,
 (k != 3) = true,
 (k == 2) = true]) := by kernel_rfl
theorem rnr_2 (k w hh : Int) : callB EM0 2000 67 [AV.sym IntKind.i64 k, AV.sym IntKind.i64 w, AV.sym IntKind.u64 hh] (rnrH k w hh) (rnrR k w hh) [(1, Src.nm 1)] [Hint.b true, Hint.b true, Hint.b false, Hint.b true] =
 some ([(0 : Nat) = 0,
 (0 : Nat) = 0,
 k = k,
 w = w,
 0 = nN k w,
 hh = nH k hh,
 false = false,
 (0 : Int) = 0,
 decide (w > 15) = true,
 decide (w < 0) = false,
 (k != 3) = true,
 (k == 2) = true]) := by kernel_rfl
theorem rnr_3 (k w hh : Int) : callB EM0 2000 67 [AV.sym IntKind.i64 k, AV.sym IntKind.i64 w, AV.sym IntKind.u64 hh] (rnrH k w hh) (rnrR k w hh) [(1, Src.nm 1)] [Hint.b true, Hint.b true, Hint.b false, Hint.b false] =
 some ([(0 : Nat) = 0,
 (0 : Nat) = 0,
 k = k,
 w = w,
 1 = nN k w,
 hh = nH k hh,
 false = false,
 (0 : Int) = 0,
 decide (w > 15) = false,
 decide (w < 0) = false,
 (k != 3) = true,
 (k == 2) = true]) := by kernel_rfl
theorem rnr_4 (k w hh : Int) : callB EM0 2000 67 [AV.sym IntKind.i64 k, AV.sym IntKind.i64 w, AV.sym IntKind.u64 hh] (rnrH k w hh) (rnrR k w hh) [(1, Src.nm 1)] [Hint.b false, Hint.b true, Hint.b true] =
 some ([(0 : Nat) = 0,
 (0 : Nat) = 0,
 k = k,
 w = w,
 0 = nN k w,
 0 = nH k hh,
 false = false,
 (0 : Int) = 0,
 decide (w < 0) = true,
 (k != 3) = true,
 (k == 2) = false]) := by kernel_rfl
theorem rnr_5 (k w hh : Int) : callB EM0 2000 67 [AV.sym IntKind.i64 k, AV.sym IntKind.i64 w, AV.sym IntKind.u64 hh] (rnrH k w hh) (rnrR k w hh) [(1, Src.nm 1)] [Hint.b false, Hint.b true, Hint.b false, Hint.b true] =
 some ([(0 : Nat) = 0,
 (0 : Nat) = 0,
 k = k,
 w = w,
 0 = nN k w,
 0 = nH k hh,
 false = false,
 (0 : Int) = 0,
 decide (w > 15) = true,
 decide (w < 0) = false,
 (k != 3) = true,
 (k == 2) = false]) := by kernel_rfl
theorem rnr_6 (k w hh : Int) : callB EM0 2000 67 [AV.sym IntKind.i64 k, AV.sym IntKind.i64 w, AV.sym IntKind.u64 hh] (rnrH k w hh) (rnrR k w hh) [(1, Src.nm 1)] [Hint.b false, Hint.b true, Hint.b false, Hint.b false] =
 some ([(0 : Nat) = 0,
 (0 : Nat) = 0,
 k = k,
 w = w,
 1 = nN k w,
 0 = nH k hh,
 false = false,
 (0 : Int) = 0,
 decide (w > 15) = false,
 decide (w < 0) = false,
 (k != 3) = true,
 (k == 2) = false]) := by kernel_rfl
theorem rnr_7 (k w hh : Int) : callB EM0 2000 67 [AV.sym IntKind.i64 k, AV.sym IntKind.i64 w, AV.sym IntKind.u64 hh] (rnrH k w hh) (rnrR k w hh) [(1, Src.nm 1)] [Hint.b false, Hint.b false] =
 some ([(0 : Nat) = 0,
 (0 : Nat) = 0,
 k = k,
 w = w,
 1 = nN k w,
 0 = nH k hh,
 false = false,
 (0 : Int) = 0,
 (k != 3) = false,
 (k == 2) = false]) := by kernel_rfl
theorem rnr_loc (k w hh : Int) : LocOk Try.prog 67 [.sym .i64 k, .sym .i64 w, .sym .u64 hh] (rnrH k w hh) (rnrR k w hh) := by
  refine loc_of_call EM0_ok (fun hp => ?_)
  clear hp
  cases h1 : (k == 2) with
  | true =>
    cases h2 : (decide (w < 0)) with
    | true =>
      have g2 := of_decide_eq_true h2
      try simp only [Int.ofNat_eq_natCast, ge_iff_le, gt_iff_lt, Int.not_lt, Int.not_le] at g2
      refine ⟨2000, _, _, _, rnr_1 .., (ob_cons rfl (ob_cons rfl (ob_cons rfl (ob_cons rfl (ob_cons ?_ (ob_cons ?_ (ob_cons rfl (ob_cons rfl (ob_cons h2 (ob_cons ?_ (ob_cons h1 ob_nil)))))))))))⟩
      · (simp at h1 h2; unfold nN inN; (repeat (split)) <;> omega)
      · exact rE_a h1
      · (simp at h1 h2 ⊢; omega)
    | false =>
      have g2 := of_decide_eq_false h2
      try simp only [Int.ofNat_eq_natCast, ge_iff_le, gt_iff_lt, Int.not_lt, Int.not_le] at g2
      cases h3 : (decide (w > 15)) with
      | true =>
        have g3 := of_decide_eq_true h3
        try simp only [Int.ofNat_eq_natCast, ge_iff_le, gt_iff_lt, Int.not_lt, Int.not_le] at g3
        refine ⟨2000, _, _, _, rnr_2 .., (ob_cons rfl (ob_cons rfl (ob_cons rfl (ob_cons rfl (ob_cons ?_ (ob_cons ?_ (ob_cons rfl (ob_cons rfl (ob_cons h3 (ob_cons h2 (ob_cons ?_ (ob_cons h1 ob_nil))))))))))))⟩
        · (simp at h1 h2; unfold nN inN; (repeat (split)) <;> omega)
        · exact rE_a h1
        · (simp at h1 h2 ⊢; omega)
      | false =>
        have g3 := of_decide_eq_false h3
        try simp only [Int.ofNat_eq_natCast, ge_iff_le, gt_iff_lt, Int.not_lt, Int.not_le] at g3
        refine ⟨2000, _, _, _, rnr_3 .., (ob_cons rfl (ob_cons rfl (ob_cons rfl (ob_cons rfl (ob_cons ?_ (ob_cons ?_ (ob_cons rfl (ob_cons rfl (ob_cons h3 (ob_cons h2 (ob_cons ?_ (ob_cons h1 ob_nil))))))))))))⟩
        · (simp at h1 h2; unfold nN inN; (repeat (split)) <;> omega)
        · exact rE_a h1
        · (simp at h1 h2 ⊢; omega)
  | false =>
    cases h4 : (k != 3) with
    | true =>
      cases h5 : (decide (w < 0)) with
      | true =>
        have g5 := of_decide_eq_true h5
        try simp only [Int.ofNat_eq_natCast, ge_iff_le, gt_iff_lt, Int.not_lt, Int.not_le] at g5
        refine ⟨2000, _, _, _, rnr_4 .., (ob_cons rfl (ob_cons rfl (ob_cons rfl (ob_cons rfl (ob_cons ?_ (ob_cons ?_ (ob_cons rfl (ob_cons rfl (ob_cons h5 (ob_cons h4 (ob_cons h1 ob_nil)))))))))))⟩
        · (simp at h1 h4; unfold nN inN; (repeat (split)) <;> omega)
        · exact rE_b h1
      | false =>
        have g5 := of_decide_eq_false h5
        try simp only [Int.ofNat_eq_natCast, ge_iff_le, gt_iff_lt, Int.not_lt, Int.not_le] at g5
        cases h6 : (decide (w > 15)) with
        | true =>
          have g6 := of_decide_eq_true h6
          try simp only [Int.ofNat_eq_natCast, ge_iff_le, gt_iff_lt, Int.not_lt, Int.not_le] at g6
          refine ⟨2000, _, _, _, rnr_5 .., (ob_cons rfl (ob_cons rfl (ob_cons rfl (ob_cons rfl (ob_cons ?_ (ob_cons ?_ (ob_cons rfl (ob_cons rfl (ob_cons h6 (ob_cons h5 (ob_cons h4 (ob_cons h1 ob_nil))))))))))))⟩
          · (simp at h1 h4; unfold nN inN; (repeat (split)) <;> omega)
          · exact rE_b h1
        | false =>
          have g6 := of_decide_eq_false h6
          try simp only [Int.ofNat_eq_natCast, ge_iff_le, gt_iff_lt, Int.not_lt, Int.not_le] at g6
          refine ⟨2000, _, _, _, rnr_6 .., (ob_cons rfl (ob_cons rfl (ob_cons rfl (ob_cons rfl (ob_cons ?_ (ob_cons ?_ (ob_cons rfl (ob_cons rfl (ob_cons h6 (ob_cons h5 (ob_cons h4 (ob_cons h1 ob_nil))))))))))))⟩
          · (simp at h1 h4; unfold nN inN; (repeat (split)) <;> omega)
          · exact rE_b h1
    | false =>
      refine ⟨2000, _, _, _, rnr_7 .., (ob_cons rfl (ob_cons rfl (ob_cons rfl (ob_cons rfl (ob_cons ?_ (ob_cons ?_ (ob_cons rfl (ob_cons rfl (ob_cons h4 (ob_cons h1 ob_nil))))))))))⟩
      · (simp at h1 h4; unfold nN inN; (repeat (split)) <;> omega)
      · exact rE_b h1
noncomputable def rnrSpec : LSpec := fun la lh => match la, lh with
  | [.sym .i64 k, .sym .i64 w, .sym .u64 hh], [] => some (rnrR k w hh)
  | _, _ => none
theorem rnrSpec_ok (la : List AV) (lh : List (Nat × AO)) (R : LR) (h : rnrSpec la lh = some R) : LocOk Try.prog 67 la lh R := by
  unfold rnrSpec at h
  split at h
  · rename_i k w hh
    cases h
    exact rnr_loc k w hh
  · cases h

end Go.Proofs.Ytephpkfajobhmaa
