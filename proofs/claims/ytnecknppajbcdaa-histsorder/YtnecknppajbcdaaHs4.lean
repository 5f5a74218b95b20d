/-
  Histories: where no call was taken.
-/
import Derived.Test.YtnecknppajbcdaaHs4Def
set_option linter.unusedSimpArgs false
set_option linter.unusedVariables false
namespace Go.Proofs.Ytnecknppajbcdaa
open Go.Ev
theorem beg0t_2 (t o ky va s last : Int) : callB EH2 2000 25 [AV.ptr 1 0 0, AV.sym IntKind.i64 t, AV.sym IntKind.u8 o, AV.sym IntKind.u64 ky, AV.sym IntKind.u64 va, AV.sym IntKind.i64 s] (beg0tH t o ky va s last) (beg0tR t o ky va s last) [(2, Src.nm 3682564433883159603764838408931049046243722301798447888168702789108150520955258874243678853866642176794747519643505079885369413614121067184994593538034), (3, Src.nm 3682564433883159603764838408931049046243722301798447888168702789108150520955258874243678853866642176794747519643505079885369413614121067184994593538032)] [Hint.b true, Hint.b true, Hint.b true, Hint.node [(16, [Hint.b false])]] =
 some ([(0 : Int) = 0,
 (0 : Int) = 0,
 (0 : Nat) = 0,
 (1 : Nat) = 1,
 (none : Option Nat) = none,
 s = s,
 (1 : Nat) = 1,
 ∀ (i : Nat), i < 1 → rowOb cSh 0 (listRow 9 ([] ++ [AV.sym IntKind.i64 t, AV.sym IntKind.u8 o, AV.sym IntKind.u64 ky, AV.sym IntKind.u64 va, cellOf (Value.int IntKind.u8 0), cellOf (Value.int IntKind.u64 0), AV.sym IntKind.i64 s, ofVal (Value.int IntKind.i64 (-1)), ofVal (Value.int IntKind.i64 (-1))]) i) (cF (fun x => mkCl t o ky va s) i),
 ∀ (k : List Int), setKey (fun x => none) [t] (some 0) k = setKey (fun x => none) [t] (some 0) k,
 (!decide (s ≥ last)) = false,
 decide (o ≤ 7) = true,
 decide (t < 16) = true,
 decide (t ≥ 0) = true]) := by kernel_rfl
theorem beg0t_loc (t o ky va s last : Int) : LocOk Try.prog 25 [.ptr 1 0 0, .sym .i64 t, .sym .u8 o, .sym .u64 ky, .sym .u64 va, .sym .i64 s] (beg0tH t o ky va s last) (beg0tR t o ky va s last) := by
  refine loc_of_call EH2_ok (fun hp => ?_)
  have hc : ((bgE last (-1) t o s) == 0) = true := hp _ (List.mem_cons_self ..)
  clear hp
  refine ⟨2000, _, _, _, beg0t_2 .., (ob_cons rfl (ob_cons rfl (ob_cons rfl (ob_cons rfl (ob_cons rfl (ob_cons rfl (ob_cons rfl (ob_cons ?_ (ob_cons (fun _ => rfl) (ob_cons ?_ (ob_cons ?_ (ob_cons ?_ (ob_cons ?_ ob_nil)))))))))))))⟩
  ·
    first | exact fun _ => rfl | (exfalso; simp at *; omega) | (simp_all [bgE]; done) | (simp_all [bgE]; omega) | (intro q; simp_all; done) | (exact .inr (fun i hi => row_c (by cases i with | zero => rfl | succ i => omega))) | (refine fun i hi => row_c ?_; cases i with | zero => rfl | succ i => omega)
  ·
    first | (apply Nat.ble_eq_true_of_le; omega) | (simp [Nat.blt_eq]; omega) | (exfalso; simp at *; omega) | (simp_all [bgE]; done) | (simp_all [bgE]; omega) | (intro q; simp_all; done) | (exact .inr (fun i hi => row_c (by cases i with | zero => rfl | succ i => omega))) | (refine fun i hi => row_c ?_; cases i with | zero => rfl | succ i => omega)
  ·
    first | (apply Nat.ble_eq_true_of_le; omega) | (simp [Nat.blt_eq]; omega) | (exfalso; simp at *; omega) | (simp_all [bgE]; done) | (simp_all [bgE]; omega) | (intro q; simp_all; done) | (exact .inr (fun i hi => row_c (by cases i with | zero => rfl | succ i => omega))) | (refine fun i hi => row_c ?_; cases i with | zero => rfl | succ i => omega)
  ·
    first | (apply Nat.ble_eq_true_of_le; omega) | (simp [Nat.blt_eq]; omega) | (exfalso; simp at *; omega) | (simp_all [bgE]; done) | (simp_all [bgE]; omega) | (intro q; simp_all; done) | (exact .inr (fun i hi => row_c (by cases i with | zero => rfl | succ i => omega))) | (refine fun i hi => row_c ?_; cases i with | zero => rfl | succ i => omega)
  ·
    first | (apply Nat.ble_eq_true_of_le; omega) | (simp [Nat.blt_eq]; omega) | (exfalso; simp at *; omega) | (simp_all [bgE]; done) | (simp_all [bgE]; omega) | (intro q; simp_all; done) | (exact .inr (fun i hi => row_c (by cases i with | zero => rfl | succ i => omega))) | (refine fun i hi => row_c ?_; cases i with | zero => rfl | succ i => omega)
noncomputable def beg0tSpec : LSpec := fun la lh => match la, lh with
  | [.ptr z1 z2 z3, .sym .i64 t, .sym .u8 o, .sym .u64 ky, .sym .u64 va, .sym .i64 s], [(z4, .cells z5 [.nils, .nilm, .sym .i64 last])] =>
    match Nat.beq z1 1 && (Nat.beq z2 0 && (Nat.beq z3 0 && (Nat.beq z4 1 && (Nat.beq z5 3)))) with
    | true => some (beg0tR t o ky va s last)
    | false => none
  | _, _ => none
theorem beg0tSpec_ok (la : List AV) (lh : List (Nat × AO)) (R : LR) (h : beg0tSpec la lh = some R) : LocOk Try.prog 25 la lh R := by
  unfold beg0tSpec at h
  split at h
  · rename_i z1 z2 z3 t o ky va s z4 z5 last
    split at h
    · rename_i hb
      simp only [Bool.and_eq_true] at hb
      obtain ⟨e1, e2, e3, e4, e5⟩ := hb
      have e1 := Nat.eq_of_beq_eq_true e1; subst e1
      have e2 := Nat.eq_of_beq_eq_true e2; subst e2
      have e3 := Nat.eq_of_beq_eq_true e3; subst e3
      have e4 := Nat.eq_of_beq_eq_true e4; subst e4
      have e5 := Nat.eq_of_beq_eq_true e5; subst e5
      cases h
      exact beg0t_loc t o ky va s last
    · cases h
  · cases h

theorem beg0f_1 (t o ky va s last : Int) : callB EH2 2000 25 [AV.ptr 1 0 0, AV.sym IntKind.i64 t, AV.sym IntKind.u8 o, AV.sym IntKind.u64 ky, AV.sym IntKind.u64 va, AV.sym IntKind.i64 s] (beg0fH t o ky va s last) (beg0fR t o ky va s last) [] [Hint.b true, Hint.b true, Hint.b true, Hint.node [(16, [Hint.b true])]] =
 some ([(-1 : Int) = -1,
 1 = bgE last (-1) t o s,
 last = last,
 (!decide (s ≥ last)) = true,
 decide (o ≤ 7) = true,
 decide (t < 16) = true,
 decide (t ≥ 0) = true]) := by kernel_rfl
theorem beg0f_3 (t o ky va s last : Int) : callB EH2 2000 25 [AV.ptr 1 0 0, AV.sym IntKind.i64 t, AV.sym IntKind.u8 o, AV.sym IntKind.u64 ky, AV.sym IntKind.u64 va, AV.sym IntKind.i64 s] (beg0fH t o ky va s last) (beg0fR t o ky va s last) [] [Hint.b true, Hint.b true, Hint.b false] =
 some ([(-1 : Int) = -1,
 1 = bgE last (-1) t o s,
 last = last,
 decide (o ≤ 7) = false,
 decide (t < 16) = true,
 decide (t ≥ 0) = true]) := by kernel_rfl
theorem beg0f_4 (t o ky va s last : Int) : callB EH2 2000 25 [AV.ptr 1 0 0, AV.sym IntKind.i64 t, AV.sym IntKind.u8 o, AV.sym IntKind.u64 ky, AV.sym IntKind.u64 va, AV.sym IntKind.i64 s] (beg0fH t o ky va s last) (beg0fR t o ky va s last) [] [Hint.b true, Hint.b false] =
 some ([(-1 : Int) = -1,
 1 = bgE last (-1) t o s,
 last = last,
 decide (t < 16) = false,
 decide (t ≥ 0) = true]) := by kernel_rfl
theorem beg0f_5 (t o ky va s last : Int) : callB EH2 2000 25 [AV.ptr 1 0 0, AV.sym IntKind.i64 t, AV.sym IntKind.u8 o, AV.sym IntKind.u64 ky, AV.sym IntKind.u64 va, AV.sym IntKind.i64 s] (beg0fH t o ky va s last) (beg0fR t o ky va s last) [] [Hint.b false] =
 some ([(-1 : Int) = -1,
 1 = bgE last (-1) t o s,
 last = last,
 decide (t ≥ 0) = false]) := by kernel_rfl
theorem beg0f_loc (t o ky va s last : Int) : LocOk Try.prog 25 [.ptr 1 0 0, .sym .i64 t, .sym .u8 o, .sym .u64 ky, .sym .u64 va, .sym .i64 s] (beg0fH t o ky va s last) (beg0fR t o ky va s last) := by
  refine loc_of_call EH2_ok (fun hp => ?_)
  have hc : ((bgE last (-1) t o s) == 0) = false := hp _ (List.mem_cons_self ..)
  clear hp
  cases h1 : (decide (t ≥ 0)) with
  | true =>
    have g1 := of_decide_eq_true h1
    try simp only [Int.ofNat_eq_natCast, ge_iff_le, gt_iff_lt, Int.not_lt, Int.not_le] at g1
    cases h2 : (decide (t < 16)) with
    | true =>
      have g2 := of_decide_eq_true h2
      try simp only [Int.ofNat_eq_natCast, ge_iff_le, gt_iff_lt, Int.not_lt, Int.not_le] at g2
      cases h3 : (decide (o ≤ 7)) with
      | true =>
        have g3 := of_decide_eq_true h3
        try simp only [Int.ofNat_eq_natCast, ge_iff_le, gt_iff_lt, Int.not_lt, Int.not_le] at g3
        refine ⟨2000, _, _, _, beg0f_1 .., (ob_cons rfl (ob_cons ?_ (ob_cons rfl (ob_cons ?_ (ob_cons h3 (ob_cons h2 (ob_cons h1 ob_nil)))))))⟩
        ·
          first | rfl | (exfalso; simp at *; omega) | (simp_all [bgE]; done) | (simp_all [bgE]; omega) | (intro q; simp_all; done) | (exact .inr (fun i hi => row_c (by cases i with | zero => rfl | succ i => omega))) | (refine fun i hi => row_c ?_; cases i with | zero => rfl | succ i => omega)
        ·
          first | (apply Nat.ble_eq_true_of_le; omega) | (simp [Nat.blt_eq]; omega) | (exfalso; simp at *; omega) | (simp_all [bgE]; done) | (simp_all [bgE]; omega) | (intro q; simp_all; done) | (exact .inr (fun i hi => row_c (by cases i with | zero => rfl | succ i => omega))) | (refine fun i hi => row_c ?_; cases i with | zero => rfl | succ i => omega)
      | false =>
        have g3 := of_decide_eq_false h3
        try simp only [Int.ofNat_eq_natCast, ge_iff_le, gt_iff_lt, Int.not_lt, Int.not_le] at g3
        refine ⟨2000, _, _, _, beg0f_3 .., (ob_cons rfl (ob_cons ?_ (ob_cons rfl (ob_cons h3 (ob_cons h2 (ob_cons h1 ob_nil))))))⟩
        ·
          first | rfl | (exfalso; simp at *; omega) | (simp_all [bgE]; done) | (simp_all [bgE]; omega) | (intro q; simp_all; done) | (exact .inr (fun i hi => row_c (by cases i with | zero => rfl | succ i => omega))) | (refine fun i hi => row_c ?_; cases i with | zero => rfl | succ i => omega)
    | false =>
      have g2 := of_decide_eq_false h2
      try simp only [Int.ofNat_eq_natCast, ge_iff_le, gt_iff_lt, Int.not_lt, Int.not_le] at g2
      refine ⟨2000, _, _, _, beg0f_4 .., (ob_cons rfl (ob_cons ?_ (ob_cons rfl (ob_cons h2 (ob_cons h1 ob_nil)))))⟩
      ·
        first | rfl | (exfalso; simp at *; omega) | (simp_all [bgE]; done) | (simp_all [bgE]; omega) | (intro q; simp_all; done) | (exact .inr (fun i hi => row_c (by cases i with | zero => rfl | succ i => omega))) | (refine fun i hi => row_c ?_; cases i with | zero => rfl | succ i => omega)
  | false =>
    have g1 := of_decide_eq_false h1
    try simp only [Int.ofNat_eq_natCast, ge_iff_le, gt_iff_lt, Int.not_lt, Int.not_le] at g1
    refine ⟨2000, _, _, _, beg0f_5 .., (ob_cons rfl (ob_cons ?_ (ob_cons rfl (ob_cons h1 ob_nil))))⟩
    ·
      first | rfl | (exfalso; simp at *; omega) | (simp_all [bgE]; done) | (simp_all [bgE]; omega) | (intro q; simp_all; done) | (exact .inr (fun i hi => row_c (by cases i with | zero => rfl | succ i => omega))) | (refine fun i hi => row_c ?_; cases i with | zero => rfl | succ i => omega)
noncomputable def beg0fSpec : LSpec := fun la lh => match la, lh with
  | [.ptr z1 z2 z3, .sym .i64 t, .sym .u8 o, .sym .u64 ky, .sym .u64 va, .sym .i64 s], [(z4, .cells z5 [.nils, .nilm, .sym .i64 last])] =>
    match Nat.beq z1 1 && (Nat.beq z2 0 && (Nat.beq z3 0 && (Nat.beq z4 1 && (Nat.beq z5 3)))) with
    | true => some (beg0fR t o ky va s last)
    | false => none
  | _, _ => none
theorem beg0fSpec_ok (la : List AV) (lh : List (Nat × AO)) (R : LR) (h : beg0fSpec la lh = some R) : LocOk Try.prog 25 la lh R := by
  unfold beg0fSpec at h
  split at h
  · rename_i z1 z2 z3 t o ky va s z4 z5 last
    split at h
    · rename_i hb
      simp only [Bool.and_eq_true] at hb
      obtain ⟨e1, e2, e3, e4, e5⟩ := hb
      have e1 := Nat.eq_of_beq_eq_true e1; subst e1
      have e2 := Nat.eq_of_beq_eq_true e2; subst e2
      have e3 := Nat.eq_of_beq_eq_true e3; subst e3
      have e4 := Nat.eq_of_beq_eq_true e4; subst e4
      have e5 := Nat.eq_of_beq_eq_true e5; subst e5
      cases h
      exact beg0f_loc t o ky va s last
    · cases h
  · cases h

theorem pnt0_1 (c an va s last : Int) : callB EH2 2000 27 [AV.ptr 1 0 0, AV.sym IntKind.i64 c, AV.sym IntKind.u8 an, AV.sym IntKind.u64 va, AV.sym IntKind.i64 s] (pnt0H c an va s last) (pnt0R c an va s last) [] [Hint.b true, Hint.b true] =
 some ([(1 : Int) = 1,
 last = last,
 decide (c < 0) = true,
 (an == 1) = true]) := by kernel_rfl
theorem pnt0_2 (c an va s last : Int) : callB EH2 2000 27 [AV.ptr 1 0 0, AV.sym IntKind.i64 c, AV.sym IntKind.u8 an, AV.sym IntKind.u64 va, AV.sym IntKind.i64 s] (pnt0H c an va s last) (pnt0R c an va s last) [] [Hint.b true, Hint.b false, Hint.b true] =
 some ([(1 : Int) = 1,
 last = last,
 decide (c ≥ 0) = true,
 decide (c < 0) = false,
 (an == 1) = true]) := by kernel_rfl
theorem pnt0_3 (c an va s last : Int) : callB EH2 2000 27 [AV.ptr 1 0 0, AV.sym IntKind.i64 c, AV.sym IntKind.u8 an, AV.sym IntKind.u64 va, AV.sym IntKind.i64 s] (pnt0H c an va s last) (pnt0R c an va s last) [] [Hint.b false, Hint.b true] =
 some ([(1 : Int) = 1,
 last = last,
 decide (c < 0) = true,
 (an == 1) = false]) := by kernel_rfl
theorem pnt0_4 (c an va s last : Int) : callB EH2 2000 27 [AV.ptr 1 0 0, AV.sym IntKind.i64 c, AV.sym IntKind.u8 an, AV.sym IntKind.u64 va, AV.sym IntKind.i64 s] (pnt0H c an va s last) (pnt0R c an va s last) [] [Hint.b false, Hint.b false, Hint.b true] =
 some ([(1 : Int) = 1,
 last = last,
 decide (c ≥ 0) = true,
 decide (c < 0) = false,
 (an == 1) = false]) := by kernel_rfl
theorem pnt0_loc (c an va s last : Int) : LocOk Try.prog 27 [.ptr 1 0 0, .sym .i64 c, .sym .u8 an, .sym .u64 va, .sym .i64 s] (pnt0H c an va s last) (pnt0R c an va s last) := by
  refine loc_of_call EH2_ok (fun hp => ?_)
  clear hp
  cases h1 : (an == 1) with
  | true =>
    cases h2 : (decide (c < 0)) with
    | true =>
      have g2 := of_decide_eq_true h2
      try simp only [Int.ofNat_eq_natCast, ge_iff_le, gt_iff_lt, Int.not_lt, Int.not_le] at g2
      refine ⟨2000, _, _, _, pnt0_1 .., (ob_cons rfl (ob_cons rfl (ob_cons h2 (ob_cons h1 ob_nil))))⟩
    | false =>
      have g2 := of_decide_eq_false h2
      try simp only [Int.ofNat_eq_natCast, ge_iff_le, gt_iff_lt, Int.not_lt, Int.not_le] at g2
      refine ⟨2000, _, _, _, pnt0_2 .., (ob_cons rfl (ob_cons rfl (ob_cons ?_ (ob_cons h2 (ob_cons h1 ob_nil)))))⟩
      ·
        first | (apply Nat.ble_eq_true_of_le; omega) | (simp [Nat.blt_eq]; omega) | (exfalso; simp at *; omega)
  | false =>
    cases h3 : (decide (c < 0)) with
    | true =>
      have g3 := of_decide_eq_true h3
      try simp only [Int.ofNat_eq_natCast, ge_iff_le, gt_iff_lt, Int.not_lt, Int.not_le] at g3
      refine ⟨2000, _, _, _, pnt0_3 .., (ob_cons rfl (ob_cons rfl (ob_cons h3 (ob_cons h1 ob_nil))))⟩
    | false =>
      have g3 := of_decide_eq_false h3
      try simp only [Int.ofNat_eq_natCast, ge_iff_le, gt_iff_lt, Int.not_lt, Int.not_le] at g3
      refine ⟨2000, _, _, _, pnt0_4 .., (ob_cons rfl (ob_cons rfl (ob_cons ?_ (ob_cons h3 (ob_cons h1 ob_nil)))))⟩
      ·
        first | (apply Nat.ble_eq_true_of_le; omega) | (simp [Nat.blt_eq]; omega) | (exfalso; simp at *; omega)
noncomputable def pnt0Spec : LSpec := fun la lh => match la, lh with
  | [.ptr z1 z2 z3, .sym .i64 c, .sym .u8 an, .sym .u64 va, .sym .i64 s], [(z4, .cells z5 [.nils, .nilm, .sym .i64 last])] =>
    match Nat.beq z1 1 && (Nat.beq z2 0 && (Nat.beq z3 0 && (Nat.beq z4 1 && (Nat.beq z5 3)))) with
    | true => some (pnt0R c an va s last)
    | false => none
  | _, _ => none
theorem pnt0Spec_ok (la : List AV) (lh : List (Nat × AO)) (R : LR) (h : pnt0Spec la lh = some R) : LocOk Try.prog 27 la lh R := by
  unfold pnt0Spec at h
  split at h
  · rename_i z1 z2 z3 c an va s z4 z5 last
    split at h
    · rename_i hb
      simp only [Bool.and_eq_true] at hb
      obtain ⟨e1, e2, e3, e4, e5⟩ := hb
      have e1 := Nat.eq_of_beq_eq_true e1; subst e1
      have e2 := Nat.eq_of_beq_eq_true e2; subst e2
      have e3 := Nat.eq_of_beq_eq_true e3; subst e3
      have e4 := Nat.eq_of_beq_eq_true e4; subst e4
      have e5 := Nat.eq_of_beq_eq_true e5; subst e5
      cases h
      exact pnt0_loc c an va s last
    · cases h
  · cases h

theorem hen0_1 (c s last : Int) : callB EH2 2000 29 [AV.ptr 1 0 0, AV.sym IntKind.i64 c, AV.sym IntKind.i64 s] (hen0H c s last) (hen0R c s last) [] [Hint.b true] =
 some ([(1 : Int) = 1,
 last = last,
 decide (c < 0) = true]) := by kernel_rfl
theorem hen0_2 (c s last : Int) : callB EH2 2000 29 [AV.ptr 1 0 0, AV.sym IntKind.i64 c, AV.sym IntKind.i64 s] (hen0H c s last) (hen0R c s last) [] [Hint.b false, Hint.b true] =
 some ([(1 : Int) = 1,
 last = last,
 decide (c ≥ 0) = true,
 decide (c < 0) = false]) := by kernel_rfl
theorem hen0_loc (c s last : Int) : LocOk Try.prog 29 [.ptr 1 0 0, .sym .i64 c, .sym .i64 s] (hen0H c s last) (hen0R c s last) := by
  refine loc_of_call EH2_ok (fun hp => ?_)
  clear hp
  cases h1 : (decide (c < 0)) with
  | true =>
    have g1 := of_decide_eq_true h1
    try simp only [Int.ofNat_eq_natCast, ge_iff_le, gt_iff_lt, Int.not_lt, Int.not_le] at g1
    refine ⟨2000, _, _, _, hen0_1 .., (ob_cons rfl (ob_cons rfl (ob_cons h1 ob_nil)))⟩
  | false =>
    have g1 := of_decide_eq_false h1
    try simp only [Int.ofNat_eq_natCast, ge_iff_le, gt_iff_lt, Int.not_lt, Int.not_le] at g1
    refine ⟨2000, _, _, _, hen0_2 .., (ob_cons rfl (ob_cons rfl (ob_cons ?_ (ob_cons h1 ob_nil))))⟩
    ·
      first | (apply Nat.ble_eq_true_of_le; omega) | (simp [Nat.blt_eq]; omega) | (exfalso; simp at *; omega)
noncomputable def hen0Spec : LSpec := fun la lh => match la, lh with
  | [.ptr z1 z2 z3, .sym .i64 c, .sym .i64 s], [(z4, .cells z5 [.nils, .nilm, .sym .i64 last])] =>
    match Nat.beq z1 1 && (Nat.beq z2 0 && (Nat.beq z3 0 && (Nat.beq z4 1 && (Nat.beq z5 3)))) with
    | true => some (hen0R c s last)
    | false => none
  | _, _ => none
theorem hen0Spec_ok (la : List AV) (lh : List (Nat × AO)) (R : LR) (h : hen0Spec la lh = some R) : LocOk Try.prog 29 la lh R := by
  unfold hen0Spec at h
  split at h
  · rename_i z1 z2 z3 c s z4 z5 last
    split at h
    · rename_i hb
      simp only [Bool.and_eq_true] at hb
      obtain ⟨e1, e2, e3, e4, e5⟩ := hb
      have e1 := Nat.eq_of_beq_eq_true e1; subst e1
      have e2 := Nat.eq_of_beq_eq_true e2; subst e2
      have e3 := Nat.eq_of_beq_eq_true e3; subst e3
      have e4 := Nat.eq_of_beq_eq_true e4; subst e4
      have e5 := Nat.eq_of_beq_eq_true e5; subst e5
      cases h
      exact hen0_loc c s last
    · cases h
  · cases h

end Go.Proofs.Ytnecknppajbcdaa
