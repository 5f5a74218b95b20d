/-
  EpochsPlay: what begins an operation.
-/
import Derived.Test.YtephpkfajobhmaaWEnDef
set_option linter.unusedSimpArgs false
set_option linter.unusedVariables false
namespace Go.Proofs.Ytephpkfajobhmaa
open Go.Ev
theorem nen_1 (w : Int) : callB EM0 2000 61 [AV.sym IntKind.i64 w] (nenH w) (nenR w) [(1, Src.nm 2)] [Hint.b true] =
 some ([(0 : Nat) = 0,
 (0 : Nat) = 0,
 0 = inT w,
 (0 : Int) = 0,
 w = w,
 decide (w < 0) = true]) := by kernel_rfl
theorem nen_2 (w : Int) : callB EM0 2000 61 [AV.sym IntKind.i64 w] (nenH w) (nenR w) [(1, Src.nm 2)] [Hint.b false, Hint.b true] =
 some ([(0 : Nat) = 0,
 (0 : Nat) = 0,
 0 = inT w,
 (0 : Int) = 0,
 w = w,
 decide (w ≥ 16) = true,
 decide (w < 0) = false]) := by kernel_rfl
theorem nen_3 (w : Int) : callB EM0 2000 61 [AV.sym IntKind.i64 w] (nenH w) (nenR w) [(1, Src.nm 2)] [Hint.b false, Hint.b false] =
 some ([(0 : Nat) = 0,
 (0 : Nat) = 0,
 1 = inT w,
 (0 : Int) = 0,
 w = w,
 decide (w ≥ 16) = false,
 decide (w < 0) = false]) := by kernel_rfl
theorem nen_loc (w : Int) : LocOk Try.prog 61 [.sym .i64 w] (nenH w) (nenR w) := by
  refine loc_of_call EM0_ok (fun hp => ?_)
  clear hp
  cases h1 : (decide (w < 0)) with
  | true =>
    have g1 := of_decide_eq_true h1
    try simp only [Int.ofNat_eq_natCast, ge_iff_le, gt_iff_lt, Int.not_lt, Int.not_le] at g1
    refine ⟨2000, _, _, _, nen_1 .., (ob_cons rfl (ob_cons rfl (ob_cons ?_ (ob_cons rfl (ob_cons rfl (ob_cons h1 ob_nil))))))⟩
    · exact (inT_0 (by omega)).symm
  | false =>
    have g1 := of_decide_eq_false h1
    try simp only [Int.ofNat_eq_natCast, ge_iff_le, gt_iff_lt, Int.not_lt, Int.not_le] at g1
    cases h2 : (decide (w ≥ 16)) with
    | true =>
      have g2 := of_decide_eq_true h2
      try simp only [Int.ofNat_eq_natCast, ge_iff_le, gt_iff_lt, Int.not_lt, Int.not_le] at g2
      refine ⟨2000, _, _, _, nen_2 .., (ob_cons rfl (ob_cons rfl (ob_cons ?_ (ob_cons rfl (ob_cons rfl (ob_cons h2 (ob_cons h1 ob_nil)))))))⟩
      · exact (inT_0 (by omega)).symm
    | false =>
      have g2 := of_decide_eq_false h2
      try simp only [Int.ofNat_eq_natCast, ge_iff_le, gt_iff_lt, Int.not_lt, Int.not_le] at g2
      refine ⟨2000, _, _, _, nen_3 .., (ob_cons rfl (ob_cons rfl (ob_cons ?_ (ob_cons rfl (ob_cons rfl (ob_cons h2 (ob_cons h1 ob_nil)))))))⟩
      · exact (inT_1 (by omega) (by omega)).symm
noncomputable def nenSpec : LSpec := fun la lh => match la, lh with
  | [.sym .i64 w], [] => some (nenR w)
  | _, _ => none
theorem nenSpec_ok (la : List AV) (lh : List (Nat × AO)) (R : LR) (h : nenSpec la lh = some R) : LocOk Try.prog 61 la lh R := by
  unfold nenSpec at h
  split at h
  · rename_i w
    cases h
    exact nen_loc w
  · cases h

theorem nex_1 (w : Int) : callB EM0 2000 63 [AV.sym IntKind.i64 w] (nexH w) (nexR w) [(1, Src.nm 2)] [Hint.b true] =
 some ([(0 : Nat) = 0,
 (0 : Nat) = 0,
 0 = inT w,
 (0 : Int) = 0,
 w = w,
 decide (w < 0) = true]) := by kernel_rfl
theorem nex_2 (w : Int) : callB EM0 2000 63 [AV.sym IntKind.i64 w] (nexH w) (nexR w) [(1, Src.nm 2)] [Hint.b false, Hint.b true] =
 some ([(0 : Nat) = 0,
 (0 : Nat) = 0,
 0 = inT w,
 (0 : Int) = 0,
 w = w,
 decide (w ≥ 16) = true,
 decide (w < 0) = false]) := by kernel_rfl
theorem nex_3 (w : Int) : callB EM0 2000 63 [AV.sym IntKind.i64 w] (nexH w) (nexR w) [(1, Src.nm 2)] [Hint.b false, Hint.b false] =
 some ([(0 : Nat) = 0,
 (0 : Nat) = 0,
 1 = inT w,
 (0 : Int) = 0,
 w = w,
 decide (w ≥ 16) = false,
 decide (w < 0) = false]) := by kernel_rfl
theorem nex_loc (w : Int) : LocOk Try.prog 63 [.sym .i64 w] (nexH w) (nexR w) := by
  refine loc_of_call EM0_ok (fun hp => ?_)
  clear hp
  cases h1 : (decide (w < 0)) with
  | true =>
    have g1 := of_decide_eq_true h1
    try simp only [Int.ofNat_eq_natCast, ge_iff_le, gt_iff_lt, Int.not_lt, Int.not_le] at g1
    refine ⟨2000, _, _, _, nex_1 .., (ob_cons rfl (ob_cons rfl (ob_cons ?_ (ob_cons rfl (ob_cons rfl (ob_cons h1 ob_nil))))))⟩
    · exact (inT_0 (by omega)).symm
  | false =>
    have g1 := of_decide_eq_false h1
    try simp only [Int.ofNat_eq_natCast, ge_iff_le, gt_iff_lt, Int.not_lt, Int.not_le] at g1
    cases h2 : (decide (w ≥ 16)) with
    | true =>
      have g2 := of_decide_eq_true h2
      try simp only [Int.ofNat_eq_natCast, ge_iff_le, gt_iff_lt, Int.not_lt, Int.not_le] at g2
      refine ⟨2000, _, _, _, nex_2 .., (ob_cons rfl (ob_cons rfl (ob_cons ?_ (ob_cons rfl (ob_cons rfl (ob_cons h2 (ob_cons h1 ob_nil)))))))⟩
      · exact (inT_0 (by omega)).symm
    | false =>
      have g2 := of_decide_eq_false h2
      try simp only [Int.ofNat_eq_natCast, ge_iff_le, gt_iff_lt, Int.not_lt, Int.not_le] at g2
      refine ⟨2000, _, _, _, nex_3 .., (ob_cons rfl (ob_cons rfl (ob_cons ?_ (ob_cons rfl (ob_cons rfl (ob_cons h2 (ob_cons h1 ob_nil)))))))⟩
      · exact (inT_1 (by omega) (by omega)).symm
noncomputable def nexSpec : LSpec := fun la lh => match la, lh with
  | [.sym .i64 w], [] => some (nexR w)
  | _, _ => none
theorem nexSpec_ok (la : List AV) (lh : List (Nat × AO)) (R : LR) (h : nexSpec la lh = some R) : LocOk Try.prog 63 la lh R := by
  unfold nexSpec at h
  split at h
  · rename_i w
    cases h
    exact nex_loc w
  · cases h

theorem nad_1 : callB EM0 2000 64 [] nadH nadR [(1, Src.nm 1)] [] =
 some ([(0 : Nat) = 0,
 (0 : Nat) = 0,
 (1 : Int) = 1,
 (0 : Int) = 0,
 (0 : Int) = 0,
 (0 : Int) = 0,
 false = false]) := by kernel_rfl
theorem nad_loc  : LocOk Try.prog 64 [] (nadH ) (nadR ) := by
  refine loc_of_call EM0_ok (fun hp => ?_)
  clear hp
  refine ⟨2000, _, _, _, nad_1 .., (ob_cons rfl (ob_cons rfl (ob_cons rfl (ob_cons rfl (ob_cons rfl (ob_cons rfl (ob_cons rfl ob_nil)))))))⟩
noncomputable def nadSpec : LSpec := fun la lh => match la, lh with
  | [], [] => some (nadR)
  | _, _ => none
theorem nadSpec_ok (la : List AV) (lh : List (Nat × AO)) (R : LR) (h : nadSpec la lh = some R) : LocOk Try.prog 64 la lh R := by
  unfold nadSpec at h
  split at h
  · cases h
    exact nad_loc
  · cases h

theorem nrf_1 (k w : Int) : callB EM0 2000 62 [AV.sym IntKind.i64 k, AV.sym IntKind.i64 w] (nrfH k w) (nrfR k w) [(1, Src.nm 1)] [Hint.b true, Hint.b true] =
 some ([(0 : Nat) = 0,
 (0 : Nat) = 0,
 k = k,
 0 = nT k w,
 0 = nL k w,
 false = false,
 (0 : Int) = 0,
 (0 : Int) = 0,
 decide (w < 0) = true,
 (k != 2) = true]) := by kernel_rfl
theorem nrf_2 (k w : Int) : callB EM0 2000 62 [AV.sym IntKind.i64 k, AV.sym IntKind.i64 w] (nrfH k w) (nrfR k w) [(1, Src.nm 1)] [Hint.b true, Hint.b false, Hint.b true] =
 some ([(0 : Nat) = 0,
 (0 : Nat) = 0,
 k = k,
 0 = nT k w,
 0 = nL k w,
 false = false,
 (0 : Int) = 0,
 (0 : Int) = 0,
 decide (w > 15) = true,
 decide (w < 0) = false,
 (k != 2) = true]) := by kernel_rfl
theorem nrf_3 (k w : Int) : callB EM0 2000 62 [AV.sym IntKind.i64 k, AV.sym IntKind.i64 w] (nrfH k w) (nrfR k w) [(1, Src.nm 1)] [Hint.b true, Hint.b false, Hint.b false, Hint.b false] =
 some ([(0 : Nat) = 0,
 (0 : Nat) = 0,
 k = k,
 w = nT k w,
 1 = nL k w,
 false = false,
 (0 : Int) = 0,
 (0 : Int) = 0,
 (k == 2) = false,
 decide (w > 15) = false,
 decide (w < 0) = false,
 (k != 2) = true]) := by kernel_rfl
theorem nrf_4 (k w : Int) : callB EM0 2000 62 [AV.sym IntKind.i64 k, AV.sym IntKind.i64 w] (nrfH k w) (nrfR k w) [(1, Src.nm 1)] [Hint.b false, Hint.b true] =
 some ([(0 : Nat) = 0,
 (0 : Nat) = 0,
 k = k,
 0 = nT k w,
 1 = nL k w,
 false = false,
 (0 : Int) = 0,
 (0 : Int) = 0,
 (k == 2) = true,
 (k != 2) = false]) := by kernel_rfl
theorem nrf_loc (k w : Int) : LocOk Try.prog 62 [.sym .i64 k, .sym .i64 w] (nrfH k w) (nrfR k w) := by
  refine loc_of_call EM0_ok (fun hp => ?_)
  clear hp
  cases h1 : (k != 2) with
  | true =>
    cases h2 : (decide (w < 0)) with
    | true =>
      have g2 := of_decide_eq_true h2
      try simp only [Int.ofNat_eq_natCast, ge_iff_le, gt_iff_lt, Int.not_lt, Int.not_le] at g2
      refine ⟨2000, _, _, _, nrf_1 .., (ob_cons rfl (ob_cons rfl (ob_cons rfl (ob_cons ?_ (ob_cons ?_ (ob_cons rfl (ob_cons rfl (ob_cons rfl (ob_cons h2 (ob_cons h1 ob_nil))))))))))⟩
      · exact nE_d h1 (.inl g2)
      · exact nE_c h1 (.inl g2)
    | false =>
      have g2 := of_decide_eq_false h2
      try simp only [Int.ofNat_eq_natCast, ge_iff_le, gt_iff_lt, Int.not_lt, Int.not_le] at g2
      cases h3 : (decide (w > 15)) with
      | true =>
        have g3 := of_decide_eq_true h3
        try simp only [Int.ofNat_eq_natCast, ge_iff_le, gt_iff_lt, Int.not_lt, Int.not_le] at g3
        refine ⟨2000, _, _, _, nrf_2 .., (ob_cons rfl (ob_cons rfl (ob_cons rfl (ob_cons ?_ (ob_cons ?_ (ob_cons rfl (ob_cons rfl (ob_cons rfl (ob_cons h3 (ob_cons h2 (ob_cons h1 ob_nil)))))))))))⟩
        · exact nE_d h1 (.inr g3)
        · exact nE_c h1 (.inr g3)
      | false =>
        have g3 := of_decide_eq_false h3
        try simp only [Int.ofNat_eq_natCast, ge_iff_le, gt_iff_lt, Int.not_lt, Int.not_le] at g3
        refine ⟨2000, _, _, _, nrf_3 .., (ob_cons rfl (ob_cons rfl (ob_cons rfl (ob_cons ?_ (ob_cons ?_ (ob_cons rfl (ob_cons rfl (ob_cons rfl (ob_cons ?_ (ob_cons h3 (ob_cons h2 (ob_cons h1 ob_nil))))))))))))⟩
        · exact nE_f h1 g2 g3
        · exact nE_e h1 g2 g3
        · (simpa using h1)
  | false =>
    refine ⟨2000, _, _, _, nrf_4 .., (ob_cons rfl (ob_cons rfl (ob_cons rfl (ob_cons ?_ (ob_cons ?_ (ob_cons rfl (ob_cons rfl (ob_cons rfl (ob_cons ?_ (ob_cons h1 ob_nil))))))))))⟩
    · exact nE_b h1
    · exact nE_a h1
    · (simpa using h1)
noncomputable def nrfSpec : LSpec := fun la lh => match la, lh with
  | [.sym .i64 k, .sym .i64 w], [] => some (nrfR k w)
  | _, _ => none
theorem nrfSpec_ok (la : List AV) (lh : List (Nat × AO)) (R : LR) (h : nrfSpec la lh = some R) : LocOk Try.prog 62 la lh R := by
  unfold nrfSpec at h
  split at h
  · rename_i k w
    cases h
    exact nrf_loc k w
  · cases h

end Go.Proofs.Ytephpkfajobhmaa
