/-
  The document's words.
-/
import Derived.Test.YtlpcdjhojfopjaaGreatDoorZR4Def
set_option linter.unusedSimpArgs false
set_option linter.unusedVariables false
namespace Go.Proofs.YtlpcdjhojfopjaaGreatDoor
open Go.Ev
theorem rash_1 (w : Int) : callB ER4 2000 233 [AV.sym IntKind.u64 w] (rashH w) (rashR w) [] [Hint.b true] =
 some ([-1 = hSlot w,
 fldI w 16 63 = hTag w,
 0 ≤ w,
 w < 18446744073709551616,
 (0 : Int) ≤ (16 : Int),
 (16 : Int) ≤ (63 : Int),
 (63 : Int) ≤ (63 : Int),
 decide (fldI w 0 15 > 256) = true,
 0 ≤ w,
 w < 18446744073709551616,
 (0 : Int) ≤ (0 : Int),
 (0 : Int) ≤ (15 : Int),
 (15 : Int) ≤ (63 : Int)]) := by kernel_rfl
theorem rash_2 (w : Int) : callB ER4 2000 233 [AV.sym IntKind.u64 w] (rashH w) (rashR w) [] [Hint.b false] =
 some ([IntKind.i64.wrap (IntKind.i64.wrap (fldI w 0 15) - 1) = hSlot w,
 fldI w 16 63 = hTag w,
 0 ≤ w,
 w < 18446744073709551616,
 (0 : Int) ≤ (16 : Int),
 (16 : Int) ≤ (63 : Int),
 (63 : Int) ≤ (63 : Int),
 decide (fldI w 0 15 > 256) = false,
 0 ≤ w,
 w < 18446744073709551616,
 (0 : Int) ≤ (0 : Int),
 (0 : Int) ≤ (15 : Int),
 (15 : Int) ≤ (63 : Int)]) := by kernel_rfl
theorem rash_loc (w : Int) : LocOk Tryz.prog 233 [.sym .u64 w] (rashH w) (rashR w) := by
  refine loc_of_call ER4_ok (fun hp => ?_)
  have p0 : 0 ≤ w := hp _ (List.mem_cons_self ..)
  have p1 : w < 18446744073709551616 := hp _ (List.mem_cons_of_mem _ (List.mem_cons_self ..))
  clear hp
  have sl1 : 256 < fldI w 0 15 → (-1 : Int) = hSlot w := fun h => by rw [fld_slot] at h; unfold hSlot; rw [if_neg (by omega)]
  have sl2 : ¬ 256 < fldI w 0 15 → IntKind.i64.wrap (IntKind.i64.wrap (fldI w 0 15) - 1) = hSlot w := fun h => by
    rw [fld_slot] at h ⊢
    unfold hSlot
    rw [i64w (x := w % 65536) (by omega) (by omega), i64w (by omega) (by omega)]
    split <;> omega
  cases h1 : (decide (fldI w 0 15 > 256)) with
  | true =>
    have g1 := of_decide_eq_true h1
    try simp only [Int.ofNat_eq_natCast, ge_iff_le, gt_iff_lt, Int.not_lt, Int.not_le] at g1
    refine ⟨2000, _, _, _, rash_1 .., (cj ⟨sl1 (by omega), fld_tag p0 p1, p0, p1, (by decide), (by decide), Int.le_refl _, h1, p0, p1, Int.le_refl _, (by decide), (by decide), trivial⟩)⟩
  | false =>
    have g1 := of_decide_eq_false h1
    try simp only [Int.ofNat_eq_natCast, ge_iff_le, gt_iff_lt, Int.not_lt, Int.not_le] at g1
    refine ⟨2000, _, _, _, rash_2 .., (cj ⟨sl2 (by omega), fld_tag p0 p1, p0, p1, (by decide), (by decide), Int.le_refl _, h1, p0, p1, Int.le_refl _, (by decide), (by decide), trivial⟩)⟩
noncomputable def rashSpec : LSpec := fun la lh => match la, lh with
  | [.sym .u64 w], [] => some (rashR w)
  | _, _ => none
theorem rashSpec_ok (la : List AV) (lh : List (Nat × AO)) (R : LR) (h : rashSpec la lh = some R) : LocOk Tryz.prog 233 la lh R := by
  unfold rashSpec at h
  split at h
  · rename_i w
    cases h
    exact rash_loc w
  · cases h

theorem rhd_1 (s t : Int) : callB ER4 2000 234 [AV.sym IntKind.i64 s, AV.sym IntKind.u64 t] (rhdH s t) (rhdR s t) [] [Hint.b true, Hint.b true] =
 some ([putI (IntKind.u64.wrap (IntKind.u64.wrap s + 1)) t 16 63 = hHead s t,
 0 ≤ IntKind.u64.wrap (IntKind.u64.wrap s + 1),
 IntKind.u64.wrap (IntKind.u64.wrap s + 1) < 65536,
 0 ≤ t,
 t < 18446744073709551616,
 (0 : Int) ≤ (16 : Int),
 (16 : Int) ≤ (63 : Int),
 (63 : Int) ≤ (63 : Int),
 decide (s ≤ 255) = true,
 decide (s ≥ 0) = true]) := by kernel_rfl
theorem rhd_2 (s t : Int) : callB ER4 2000 234 [AV.sym IntKind.i64 s, AV.sym IntKind.u64 t] (rhdH s t) (rhdR s t) [] [Hint.b true, Hint.b false] =
 some ([putI 0 t 16 63 = hHead s t,
 (0 : Int) ≤ (0 : Int),
 (0 : Int) < (65536 : Int),
 0 ≤ t,
 t < 18446744073709551616,
 (0 : Int) ≤ (16 : Int),
 (16 : Int) ≤ (63 : Int),
 (63 : Int) ≤ (63 : Int),
 decide (s ≤ 255) = false,
 decide (s ≥ 0) = true]) := by kernel_rfl
theorem rhd_3 (s t : Int) : callB ER4 2000 234 [AV.sym IntKind.i64 s, AV.sym IntKind.u64 t] (rhdH s t) (rhdR s t) [] [Hint.b false] =
 some ([putI 0 t 16 63 = hHead s t,
 (0 : Int) ≤ (0 : Int),
 (0 : Int) < (65536 : Int),
 0 ≤ t,
 t < 18446744073709551616,
 (0 : Int) ≤ (16 : Int),
 (16 : Int) ≤ (63 : Int),
 (63 : Int) ≤ (63 : Int),
 decide (s ≥ 0) = false]) := by kernel_rfl
theorem rhd_loc (s t : Int) : LocOk Tryz.prog 234 [.sym .i64 s, .sym .u64 t] (rhdH s t) (rhdR s t) := by
  refine loc_of_call ER4_ok (fun hp => ?_)
  have p0 : 0 ≤ t := hp _ (List.mem_cons_self ..)
  have p1 : t < 18446744073709551616 := hp _ (List.mem_cons_of_mem _ (List.mem_cons_self ..))
  clear hp
  have ws : 0 ≤ s → s ≤ 255 → IntKind.u64.wrap (IntKind.u64.wrap s + 1) = s + 1 := fun h h' => by rw [u64w (x := s) (by omega) (by omega), u64w (by omega) (by omega)]
  have hd0 : s < 0 ∨ 255 < s → putI 0 t 16 63 = hHead s t := fun h => by rw [put_head]; unfold hHead; rw [if_neg (by omega)]
  have hd1 : 0 ≤ s → s ≤ 255 → putI (IntKind.u64.wrap (IntKind.u64.wrap s + 1)) t 16 63 = hHead s t := fun h h' => by rw [put_head]; unfold hHead; rw [if_pos (by omega), u64w (x := s) (by omega) (by omega), u64w (by omega) (by omega)]
  cases h1 : (decide (s ≥ 0)) with
  | true =>
    have g1 := of_decide_eq_true h1
    try simp only [Int.ofNat_eq_natCast, ge_iff_le, gt_iff_lt, Int.not_lt, Int.not_le] at g1
    cases h2 : (decide (s ≤ 255)) with
    | true =>
      have g2 := of_decide_eq_true h2
      try simp only [Int.ofNat_eq_natCast, ge_iff_le, gt_iff_lt, Int.not_lt, Int.not_le] at g2
      refine ⟨2000, _, _, _, rhd_1 .., (cj ⟨hd1 (by omega) (by omega), (by omega), (by omega), p0, p1, (by decide), (by decide), Int.le_refl _, h2, h1, trivial⟩)⟩
    | false =>
      have g2 := of_decide_eq_false h2
      try simp only [Int.ofNat_eq_natCast, ge_iff_le, gt_iff_lt, Int.not_lt, Int.not_le] at g2
      refine ⟨2000, _, _, _, rhd_2 .., (cj ⟨hd0 (by omega), Int.le_refl _, (by decide), p0, p1, (by decide), (by decide), Int.le_refl _, h2, h1, trivial⟩)⟩
  | false =>
    have g1 := of_decide_eq_false h1
    try simp only [Int.ofNat_eq_natCast, ge_iff_le, gt_iff_lt, Int.not_lt, Int.not_le] at g1
    refine ⟨2000, _, _, _, rhd_3 .., (cj ⟨hd0 (by omega), Int.le_refl _, (by decide), p0, p1, (by decide), (by decide), Int.le_refl _, h1, trivial⟩)⟩
noncomputable def rhdSpec : LSpec := fun la lh => match la, lh with
  | [.sym .i64 s, .sym .u64 t], [] => some (rhdR s t)
  | _, _ => none
theorem rhdSpec_ok (la : List AV) (lh : List (Nat × AO)) (R : LR) (h : rhdSpec la lh = some R) : LocOk Tryz.prog 234 la lh R := by
  unfold rhdSpec at h
  split at h
  · rename_i s t
    cases h
    exact rhd_loc s t
  · cases h

theorem rahr_1 (w : Int) : callB ER4 2000 202 [AV.sym IntKind.u64 w] (rahrH w) (rahrR w) [] [Hint.b true] =
 some ([4 = hdrS w,
 IntKind.u32.wrap (fldI w 3 34) = hdrG w,
 0 ≤ w,
 w < 18446744073709551616,
 (0 : Int) ≤ (3 : Int),
 (3 : Int) ≤ (34 : Int),
 (34 : Int) ≤ (63 : Int),
 decide (IntKind.u8.wrap (fldI w 0 2) > 4) = true,
 0 ≤ w,
 w < 18446744073709551616,
 (0 : Int) ≤ (0 : Int),
 (0 : Int) ≤ (2 : Int),
 (2 : Int) ≤ (63 : Int)]) := by kernel_rfl
theorem rahr_2 (w : Int) : callB ER4 2000 202 [AV.sym IntKind.u64 w] (rahrH w) (rahrR w) [] [Hint.b false] =
 some ([IntKind.u8.wrap (fldI w 0 2) = hdrS w,
 IntKind.u32.wrap (fldI w 3 34) = hdrG w,
 0 ≤ w,
 w < 18446744073709551616,
 (0 : Int) ≤ (3 : Int),
 (3 : Int) ≤ (34 : Int),
 (34 : Int) ≤ (63 : Int),
 decide (IntKind.u8.wrap (fldI w 0 2) > 4) = false,
 0 ≤ w,
 w < 18446744073709551616,
 (0 : Int) ≤ (0 : Int),
 (0 : Int) ≤ (2 : Int),
 (2 : Int) ≤ (63 : Int)]) := by kernel_rfl
theorem rahr_loc (w : Int) : LocOk Tryz.prog 202 [.sym .u64 w] (rahrH w) (rahrR w) := by
  refine loc_of_call ER4_ok (fun hp => ?_)
  have p0 : 0 ≤ w := hp _ (List.mem_cons_self ..)
  have p1 : w < 18446744073709551616 := hp _ (List.mem_cons_of_mem _ (List.mem_cons_self ..))
  clear hp
  have s1 : 4 < IntKind.u8.wrap (fldI w 0 2) → (4 : Int) = hdrS w := fun h => by rw [fld_hdrS, u8m] at h; unfold hdrS; rw [if_pos (by omega)]
  have s2 : ¬ 4 < IntKind.u8.wrap (fldI w 0 2) → IntKind.u8.wrap (fldI w 0 2) = hdrS w := fun h => by rw [fld_hdrS, u8m] at *; unfold hdrS; rw [if_neg (by omega)]; omega
  have g1 : IntKind.u32.wrap (fldI w 3 34) = hdrG w := by rw [fld_hdrG, u32m]; unfold hdrG; omega
  cases h1 : (decide (IntKind.u8.wrap (fldI w 0 2) > 4)) with
  | true =>
    have g1 := of_decide_eq_true h1
    try simp only [Int.ofNat_eq_natCast, ge_iff_le, gt_iff_lt, Int.not_lt, Int.not_le] at g1
    refine ⟨2000, _, _, _, rahr_1 .., (cj ⟨s1 (by omega), (by omega), p0, p1, (by decide), (by decide), (by decide), h1, p0, p1, Int.le_refl _, (by decide), (by decide), trivial⟩)⟩
  | false =>
    have g1 := of_decide_eq_false h1
    try simp only [Int.ofNat_eq_natCast, ge_iff_le, gt_iff_lt, Int.not_lt, Int.not_le] at g1
    refine ⟨2000, _, _, _, rahr_2 .., (cj ⟨s2 (by omega), (by omega), p0, p1, (by decide), (by decide), (by decide), h1, p0, p1, Int.le_refl _, (by decide), (by decide), trivial⟩)⟩
noncomputable def rahrSpec : LSpec := fun la lh => match la, lh with
  | [.sym .u64 w], [] => some (rahrR w)
  | _, _ => none
theorem rahrSpec_ok (la : List AV) (lh : List (Nat × AO)) (R : LR) (h : rahrSpec la lh = some R) : LocOk Tryz.prog 202 la lh R := by
  unfold rahrSpec at h
  split at h
  · rename_i w
    cases h
    exact rahr_loc w
  · cases h

theorem rhdr_1 (s g : Int) : callB ER4 2000 203 [AV.sym IntKind.u8 s, AV.sym IntKind.u32 g] (rhdrH s g) (rhdrR s g) [] [Hint.b true] =
 some ([putI 4 (IntKind.u64.wrap g) 3 34 = hdr s g,
 (0 : Int) ≤ (4 : Int),
 (4 : Int) < (8 : Int),
 0 ≤ IntKind.u64.wrap g,
 IntKind.u64.wrap g < 18446744073709551616,
 (0 : Int) ≤ (3 : Int),
 (3 : Int) ≤ (34 : Int),
 (34 : Int) ≤ (63 : Int),
 decide (s > 4) = true]) := by kernel_rfl
theorem rhdr_2 (s g : Int) : callB ER4 2000 203 [AV.sym IntKind.u8 s, AV.sym IntKind.u32 g] (rhdrH s g) (rhdrR s g) [] [Hint.b false] =
 some ([putI (IntKind.u64.wrap s) (IntKind.u64.wrap g) 3 34 = hdr s g,
 0 ≤ IntKind.u64.wrap s,
 IntKind.u64.wrap s < 8,
 0 ≤ IntKind.u64.wrap g,
 IntKind.u64.wrap g < 18446744073709551616,
 (0 : Int) ≤ (3 : Int),
 (3 : Int) ≤ (34 : Int),
 (34 : Int) ≤ (63 : Int),
 decide (s > 4) = false]) := by kernel_rfl
theorem rhdr_loc (s g : Int) : LocOk Tryz.prog 203 [.sym .u8 s, .sym .u32 g] (rhdrH s g) (rhdrR s g) := by
  refine loc_of_call ER4_ok (fun hp => ?_)
  have s0 : 0 ≤ s := hp _ (List.mem_cons_self ..)
  have s1 : s < 256 := hp _ (List.mem_cons_of_mem _ (List.mem_cons_self ..))
  have p0 : 0 ≤ g := hp _ (List.mem_cons_of_mem _ (List.mem_cons_of_mem _ (List.mem_cons_self ..)))
  have p1 : g < 4294967296 := hp _ (List.mem_cons_of_mem _ (List.mem_cons_of_mem _ (List.mem_cons_of_mem _ (List.mem_cons_self ..))))
  clear hp
  have w4 : IntKind.u64.wrap g = g := u64w p0 (by omega)
  have ws : IntKind.u64.wrap s = s := u64w s0 (by omega)
  have q1 : 4 < s → putI 4 (IntKind.u64.wrap g) 3 34 = hdr s g := fun h => by rw [w4, put_hdr p0 p1]; unfold hdr; rw [if_pos h]
  have q2 : ¬ 4 < s → putI (IntKind.u64.wrap s) (IntKind.u64.wrap g) 3 34 = hdr s g := fun h => by rw [w4, ws, put_hdr p0 p1]; unfold hdr; rw [if_neg h]
  cases h1 : (decide (s > 4)) with
  | true =>
    have g1 := of_decide_eq_true h1
    try simp only [Int.ofNat_eq_natCast, ge_iff_le, gt_iff_lt, Int.not_lt, Int.not_le] at g1
    refine ⟨2000, _, _, _, rhdr_1 .., (cj ⟨q1 (by omega), (by decide), (by decide), (by omega), (by omega), (by decide), (by decide), (by decide), h1, trivial⟩)⟩
  | false =>
    have g1 := of_decide_eq_false h1
    try simp only [Int.ofNat_eq_natCast, ge_iff_le, gt_iff_lt, Int.not_lt, Int.not_le] at g1
    refine ⟨2000, _, _, _, rhdr_2 .., (cj ⟨q2 (by omega), (by omega), (by omega), (by omega), (by omega), (by decide), (by decide), (by decide), h1, trivial⟩)⟩
noncomputable def rhdrSpec : LSpec := fun la lh => match la, lh with
  | [.sym .u8 s, .sym .u32 g], [] => some (rhdrR s g)
  | _, _ => none
theorem rhdrSpec_ok (la : List AV) (lh : List (Nat × AO)) (R : LR) (h : rhdrSpec la lh = some R) : LocOk Tryz.prog 203 la lh R := by
  unfold rhdrSpec at h
  split at h
  · rename_i s g
    cases h
    exact rhdr_loc s g
  · cases h

theorem rab_1 (w : Int) : callB ER4 2000 177 [AV.sym IntKind.u64 w] (rabH w) (rabR w) [] [] =
 some ([IntKind.u32.wrap (fldI w 0 31) = bkN w,
 (fldI w 32 32 == 1) = bkC w,
 0 ≤ w,
 w < 18446744073709551616,
 (0 : Int) ≤ (32 : Int),
 (32 : Int) ≤ (32 : Int),
 (32 : Int) ≤ (63 : Int),
 0 ≤ w,
 w < 18446744073709551616,
 (0 : Int) ≤ (0 : Int),
 (0 : Int) ≤ (31 : Int),
 (31 : Int) ≤ (63 : Int)]) := by kernel_rfl
theorem rab_loc (w : Int) : LocOk Tryz.prog 177 [.sym .u64 w] (rabH w) (rabR w) := by
  refine loc_of_call ER4_ok (fun hp => ?_)
  have p0 : 0 ≤ w := hp _ (List.mem_cons_self ..)
  have p1 : w < 18446744073709551616 := hp _ (List.mem_cons_of_mem _ (List.mem_cons_self ..))
  clear hp
  have n1 : IntKind.u32.wrap (fldI w 0 31) = bkN w := by rw [fld_bkN, u32m]; unfold bkN; omega
  have c1 : (fldI w 32 32 == 1) = bkC w := by rw [fld_bkC]; rfl
  refine ⟨2000, _, _, _, rab_1 .., (cj ⟨n1, c1, p0, p1, (by decide), Int.le_refl _, (by decide), p0, p1, Int.le_refl _, (by decide), (by decide), trivial⟩)⟩
noncomputable def rabSpec : LSpec := fun la lh => match la, lh with
  | [.sym .u64 w], [] => some (rabR w)
  | _, _ => none
theorem rabSpec_ok (la : List AV) (lh : List (Nat × AO)) (R : LR) (h : rabSpec la lh = some R) : LocOk Tryz.prog 177 la lh R := by
  unfold rabSpec at h
  split at h
  · rename_i w
    cases h
    exact rab_loc w
  · cases h

theorem rbkf_1 (n : Int) : callB ER4 2000 163 [AV.sym IntKind.u32 n, AV.symb false] (rbkfH n) (rbkfR n) [] [Hint.b false] =
 some ([IntKind.u64.wrap n = bk n false,
 false = false]) := by kernel_rfl
theorem rbkf_loc (n : Int) : LocOk Tryz.prog 163 [.sym .u32 n, .symb false] (rbkfH n) (rbkfR n) := by
  refine loc_of_call ER4_ok (fun hp => ?_)
  have p0 : 0 ≤ n := hp _ (List.mem_cons_self ..)
  have p1 : n < 4294967296 := hp _ (List.mem_cons_of_mem _ (List.mem_cons_self ..))
  clear hp
  have wn : IntKind.u64.wrap n = n := u64w p0 (by omega)
  have qq : IntKind.u64.wrap n = bk n false := by rw [wn]; simp [bk]
  refine ⟨2000, _, _, _, rbkf_1 .., (cj ⟨qq, rfl, trivial⟩)⟩
theorem rbkt_1 (n : Int) : callB ER4 2000 163 [AV.sym IntKind.u32 n, AV.symb true] (rbktH n) (rbktR n) [] [Hint.b true] =
 some ([putI (IntKind.u64.wrap n) 1 32 32 = bk n true,
 0 ≤ IntKind.u64.wrap n,
 IntKind.u64.wrap n < 4294967296,
 (0 : Int) ≤ (1 : Int),
 (1 : Int) < (18446744073709551616 : Int),
 (0 : Int) ≤ (32 : Int),
 (32 : Int) ≤ (32 : Int),
 (32 : Int) ≤ (63 : Int),
 true = true]) := by kernel_rfl
theorem rbkt_loc (n : Int) : LocOk Tryz.prog 163 [.sym .u32 n, .symb true] (rbktH n) (rbktR n) := by
  refine loc_of_call ER4_ok (fun hp => ?_)
  have p0 : 0 ≤ n := hp _ (List.mem_cons_self ..)
  have p1 : n < 4294967296 := hp _ (List.mem_cons_of_mem _ (List.mem_cons_self ..))
  clear hp
  have wn : IntKind.u64.wrap n = n := u64w p0 (by omega)
  have qq : putI (IntKind.u64.wrap n) 1 32 32 = bk n true := by rw [wn, put_bk]; simp [bk]
  refine ⟨2000, _, _, _, rbkt_1 .., (cj ⟨qq, (by omega), (by omega), (by decide), (by decide), (by decide), Int.le_refl _, (by decide), rfl, trivial⟩)⟩
theorem rbk_loc (n : Int) (c : Bool) : LocOk Tryz.prog 163 [.sym .u32 n, .symb c] [] (rbkR n c) := by
  cases c
  · exact rbkf_loc n
  · exact rbkt_loc n
noncomputable def rbkSpec : LSpec := fun la lh => match la, lh with
  | [.sym .u32 n, .symb c], [] => some (rbkR n c)
  | _, _ => none
theorem rbkSpec_ok (la : List AV) (lh : List (Nat × AO)) (R : LR) (h : rbkSpec la lh = some R) : LocOk Tryz.prog 163 la lh R := by
  unfold rbkSpec at h
  split at h
  · rename_i n c
    cases h
    exact rbk_loc n c
  · cases h

end Go.Proofs.YtlpcdjhojfopjaaGreatDoor
