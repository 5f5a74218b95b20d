/-
  Words.
-/
import Derived.Test.YtljeiencnpnbkaaDoorUWdDef
set_option linter.unusedSimpArgs false
set_option linter.unusedVariables false
namespace Go.Proofs.YtljeiencnpnbkaaDoor
open Go.Ev
theorem ash_1 (w : Int) : callB EM0 2000 107 [AV.sym IntKind.u64 w] (ashH w) (ashR w) [] [Hint.node [], Hint.b true, Hint.b true] =
 some ([IntKind.i64.wrap (IntKind.i64.wrap (IntKind.u16.wrap (IntKind.u64.wrap ↑(BitVec.ofInt 64 (w.fdiv 1) &&& BitVec.ofInt 64 65535).toNat)) - 1) = hSlot w,
 IntKind.u64.wrap ↑(BitVec.ofInt 64 (w.fdiv 65536) &&& BitVec.ofInt 64 281474976710655).toNat = hTag w,
 true = true,
 (1 : Nat) ≤ (1 : Nat),
 tabF tab = tabF tab ∧ plainSh (List.map kindOfV tab) = true ∨ ∀ (i : Nat), i < 1 → rowOb (List.map kindOfV tab) 0 (tabF tab i) (tabF tab i),
 decide ((0 : Int) ≤ (48 : Int)) = true,
 Nat.blt 0 1 = true,
 decide ((0 : Int) ≤ (16 : Int)) = true,
 Nat.blt 0 1 = true,
 decide (IntKind.i64.wrap (IntKind.i64.wrap (IntKind.u16.wrap (IntKind.u64.wrap ↑(BitVec.ofInt 64 (w.fdiv 1) &&& BitVec.ofInt 64 65535).toNat)) - 1) < 256) = true,
 decide (IntKind.i64.wrap (IntKind.i64.wrap (IntKind.u16.wrap (IntKind.u64.wrap ↑(BitVec.ofInt 64 (w.fdiv 1) &&& BitVec.ofInt 64 65535).toNat)) - 1) ≥ 0) = true,
 decide ((0 : Int) ≤ (16 : Int)) = true,
 Nat.blt 0 1 = true,
 decide ((0 : Int) ≤ (0 : Int)) = true,
 Nat.blt 0 1 = true]) := by kernel_rfl
theorem ash_2 (w : Int) : callB EM0 2000 107 [AV.sym IntKind.u64 w] (ashH w) (ashR w) [] [Hint.node [], Hint.b true, Hint.b false] =
 some ([-1 = hSlot w,
 IntKind.u64.wrap ↑(BitVec.ofInt 64 (w.fdiv 65536) &&& BitVec.ofInt 64 281474976710655).toNat = hTag w,
 true = true,
 (1 : Nat) ≤ (1 : Nat),
 tabF tab = tabF tab ∧ plainSh (List.map kindOfV tab) = true ∨ ∀ (i : Nat), i < 1 → rowOb (List.map kindOfV tab) 0 (tabF tab i) (tabF tab i),
 decide ((0 : Int) ≤ (48 : Int)) = true,
 Nat.blt 0 1 = true,
 decide ((0 : Int) ≤ (16 : Int)) = true,
 Nat.blt 0 1 = true,
 decide (IntKind.i64.wrap (IntKind.i64.wrap (IntKind.u16.wrap (IntKind.u64.wrap ↑(BitVec.ofInt 64 (w.fdiv 1) &&& BitVec.ofInt 64 65535).toNat)) - 1) < 256) = false,
 decide (IntKind.i64.wrap (IntKind.i64.wrap (IntKind.u16.wrap (IntKind.u64.wrap ↑(BitVec.ofInt 64 (w.fdiv 1) &&& BitVec.ofInt 64 65535).toNat)) - 1) ≥ 0) = true,
 decide ((0 : Int) ≤ (16 : Int)) = true,
 Nat.blt 0 1 = true,
 decide ((0 : Int) ≤ (0 : Int)) = true,
 Nat.blt 0 1 = true]) := by kernel_rfl
theorem ash_3 (w : Int) : callB EM0 2000 107 [AV.sym IntKind.u64 w] (ashH w) (ashR w) [] [Hint.node [], Hint.b false] =
 some ([-1 = hSlot w,
 IntKind.u64.wrap ↑(BitVec.ofInt 64 (w.fdiv 65536) &&& BitVec.ofInt 64 281474976710655).toNat = hTag w,
 true = true,
 (1 : Nat) ≤ (1 : Nat),
 tabF tab = tabF tab ∧ plainSh (List.map kindOfV tab) = true ∨ ∀ (i : Nat), i < 1 → rowOb (List.map kindOfV tab) 0 (tabF tab i) (tabF tab i),
 decide ((0 : Int) ≤ (48 : Int)) = true,
 Nat.blt 0 1 = true,
 decide ((0 : Int) ≤ (16 : Int)) = true,
 Nat.blt 0 1 = true,
 decide (IntKind.i64.wrap (IntKind.i64.wrap (IntKind.u16.wrap (IntKind.u64.wrap ↑(BitVec.ofInt 64 (w.fdiv 1) &&& BitVec.ofInt 64 65535).toNat)) - 1) ≥ 0) = false,
 decide ((0 : Int) ≤ (16 : Int)) = true,
 Nat.blt 0 1 = true,
 decide ((0 : Int) ≤ (0 : Int)) = true,
 Nat.blt 0 1 = true]) := by kernel_rfl
theorem ash_loc (w : Int) : LocOk Tryd.prog 107 [.sym .u64 w] (ashH w) (ashR w) := by
  refine loc_of_call EM0_ok (fun hp => ?_)
  have p0 : 0 ≤ w := hp _ (List.mem_cons_self ..)
  have p1 : w < 18446744073709551616 := hp _ (List.mem_cons_of_mem _ (List.mem_cons_self ..))
  clear hp
  cases h1 : (decide   (IntKind.i64.wrap       (IntKind.i64.wrap           (IntKind.u16.wrap (IntKind.u64.wrap ↑(BitVec.ofInt 64 (w.fdiv 1) &&& BitVec.ofInt 64 65535).toNat)) -         1) ≥     0)) with
  | true =>
    have g1 := of_decide_eq_true h1
    try simp only [Int.ofNat_eq_natCast, ge_iff_le, gt_iff_lt, Int.not_lt, Int.not_le] at g1
    cases h2 : (decide   (IntKind.i64.wrap       (IntKind.i64.wrap           (IntKind.u16.wrap (IntKind.u64.wrap ↑(BitVec.ofInt 64 (w.fdiv 1) &&& BitVec.ofInt 64 65535).toNat)) -         1) <     256)) with
    | true =>
      have g2 := of_decide_eq_true h2
      try simp only [Int.ofNat_eq_natCast, ge_iff_le, gt_iff_lt, Int.not_lt, Int.not_le] at g2
      refine ⟨2000, _, _, _, ash_1 .., (ob_cons ?_ (ob_cons ?_ (ob_cons rfl (ob_cons (Nat.le_refl _) (ob_cons (.inl ⟨rfl, rfl⟩) (ob_cons rfl (ob_cons rfl (ob_cons rfl (ob_cons rfl (ob_cons h2 (ob_cons h1 (ob_cons rfl (ob_cons rfl (ob_cons rfl (ob_cons rfl ob_nil)))))))))))))))⟩
      ·
        first | exact wrap_nat64 _ (by simp; omega) (by simp; omega) | exact tag_raw p0 p1 | (simp only [slot_raw p0 p1] at g1 g2 ⊢; unfold hSlot; first | rw [if_pos (by omega)] | rw [if_neg (by omega)]) | (simp only [slot_raw p0 p1] at g1 ⊢; unfold hSlot; rw [if_neg (by omega)])
      ·
        first | exact wrap_nat64 _ (by simp; omega) (by simp; omega) | exact tag_raw p0 p1 | (simp only [slot_raw p0 p1] at g1 g2 ⊢; unfold hSlot; first | rw [if_pos (by omega)] | rw [if_neg (by omega)]) | (simp only [slot_raw p0 p1] at g1 ⊢; unfold hSlot; rw [if_neg (by omega)])
    | false =>
      have g2 := of_decide_eq_false h2
      try simp only [Int.ofNat_eq_natCast, ge_iff_le, gt_iff_lt, Int.not_lt, Int.not_le] at g2
      refine ⟨2000, _, _, _, ash_2 .., (ob_cons ?_ (ob_cons ?_ (ob_cons rfl (ob_cons (Nat.le_refl _) (ob_cons (.inl ⟨rfl, rfl⟩) (ob_cons rfl (ob_cons rfl (ob_cons rfl (ob_cons rfl (ob_cons h2 (ob_cons h1 (ob_cons rfl (ob_cons rfl (ob_cons rfl (ob_cons rfl ob_nil)))))))))))))))⟩
      ·
        first | rfl | exact tag_raw p0 p1 | (simp only [slot_raw p0 p1] at g1 g2 ⊢; unfold hSlot; first | rw [if_pos (by omega)] | rw [if_neg (by omega)]) | (simp only [slot_raw p0 p1] at g1 ⊢; unfold hSlot; rw [if_neg (by omega)])
      ·
        first | exact wrap_nat64 _ (by simp; omega) (by simp; omega) | exact tag_raw p0 p1 | (simp only [slot_raw p0 p1] at g1 g2 ⊢; unfold hSlot; first | rw [if_pos (by omega)] | rw [if_neg (by omega)]) | (simp only [slot_raw p0 p1] at g1 ⊢; unfold hSlot; rw [if_neg (by omega)])
  | false =>
    have g1 := of_decide_eq_false h1
    try simp only [Int.ofNat_eq_natCast, ge_iff_le, gt_iff_lt, Int.not_lt, Int.not_le] at g1
    refine ⟨2000, _, _, _, ash_3 .., (ob_cons ?_ (ob_cons ?_ (ob_cons rfl (ob_cons (Nat.le_refl _) (ob_cons (.inl ⟨rfl, rfl⟩) (ob_cons rfl (ob_cons rfl (ob_cons rfl (ob_cons rfl (ob_cons h1 (ob_cons rfl (ob_cons rfl (ob_cons rfl (ob_cons rfl ob_nil))))))))))))))⟩
    ·
      first | rfl | exact tag_raw p0 p1 | (simp only [slot_raw p0 p1] at g1 g2 ⊢; unfold hSlot; first | rw [if_pos (by omega)] | rw [if_neg (by omega)]) | (simp only [slot_raw p0 p1] at g1 ⊢; unfold hSlot; rw [if_neg (by omega)])
    ·
      first | exact wrap_nat64 _ (by simp; omega) (by simp; omega) | exact tag_raw p0 p1 | (simp only [slot_raw p0 p1] at g1 g2 ⊢; unfold hSlot; first | rw [if_pos (by omega)] | rw [if_neg (by omega)]) | (simp only [slot_raw p0 p1] at g1 ⊢; unfold hSlot; rw [if_neg (by omega)])
theorem hd_1 (s t : Int) : callB EM0 2000 189 [AV.sym IntKind.i64 s, AV.sym IntKind.u64 t] (hdH s t) (hdR s t) [] [Hint.b true, Hint.b true] =
 some ([IntKind.u64.wrap ↑(BitVec.ofInt 64 0 ||| BitVec.ofInt 64 (IntKind.u64.wrap (IntKind.u64.wrap ↑(BitVec.ofInt 64 t &&& BitVec.ofInt 64 281474976710655).toNat * 65536))).toNat = hHead s t,
 true = true,
 (1 : Nat) ≤ (1 : Nat),
 tabF tab = tabF tab ∧ plainSh (List.map kindOfV tab) = true ∨ ∀ (i : Nat), i < 1 → rowOb (List.map kindOfV tab) 0 (tabF tab i) (tabF tab i),
 decide ((0 : Int) ≤ (16 : Int)) = true,
 Nat.blt 0 1 = true,
 decide ((0 : Int) ≤ (48 : Int)) = true,
 Nat.blt 0 1 = true,
 (!decide (s < 256)) = true,
 decide (s ≥ 0) = true]) := by kernel_rfl
theorem hd_2 (s t : Int) : callB EM0 2000 189 [AV.sym IntKind.i64 s, AV.sym IntKind.u64 t] (hdH s t) (hdR s t) [] [Hint.b true, Hint.b false] =
 some ([IntKind.u64.wrap ↑(BitVec.ofInt 64 (IntKind.u64.wrap (IntKind.i64.wrap (s + 1))) ||| BitVec.ofInt 64 (IntKind.u64.wrap (IntKind.u64.wrap ↑(BitVec.ofInt 64 t &&& BitVec.ofInt 64 281474976710655).toNat * 65536))).toNat = hHead s t,
 true = true,
 (1 : Nat) ≤ (1 : Nat),
 tabF tab = tabF tab ∧ plainSh (List.map kindOfV tab) = true ∨ ∀ (i : Nat), i < 1 → rowOb (List.map kindOfV tab) 0 (tabF tab i) (tabF tab i),
 decide ((0 : Int) ≤ (16 : Int)) = true,
 Nat.blt 0 1 = true,
 decide ((0 : Int) ≤ (48 : Int)) = true,
 Nat.blt 0 1 = true,
 (!decide (s < 256)) = false,
 decide (s ≥ 0) = true]) := by kernel_rfl
theorem hd_3 (s t : Int) : callB EM0 2000 189 [AV.sym IntKind.i64 s, AV.sym IntKind.u64 t] (hdH s t) (hdR s t) [] [Hint.b false] =
 some ([IntKind.u64.wrap ↑(BitVec.ofInt 64 0 ||| BitVec.ofInt 64 (IntKind.u64.wrap (IntKind.u64.wrap ↑(BitVec.ofInt 64 t &&& BitVec.ofInt 64 281474976710655).toNat * 65536))).toNat = hHead s t,
 true = true,
 (1 : Nat) ≤ (1 : Nat),
 tabF tab = tabF tab ∧ plainSh (List.map kindOfV tab) = true ∨ ∀ (i : Nat), i < 1 → rowOb (List.map kindOfV tab) 0 (tabF tab i) (tabF tab i),
 decide ((0 : Int) ≤ (16 : Int)) = true,
 Nat.blt 0 1 = true,
 decide ((0 : Int) ≤ (48 : Int)) = true,
 Nat.blt 0 1 = true,
 decide (s ≥ 0) = false]) := by kernel_rfl
theorem hd_loc (s t : Int) : LocOk Tryd.prog 189 [.sym .i64 s, .sym .u64 t] (hdH s t) (hdR s t) := by
  refine loc_of_call EM0_ok (fun hp => ?_)
  have p0 : 0 ≤ t := hp _ (List.mem_cons_self ..)
  have p1 : t < 18446744073709551616 := hp _ (List.mem_cons_of_mem _ (List.mem_cons_self ..))
  clear hp
  cases h1 : (decide (s ≥ 0)) with
  | true =>
    have g1 := of_decide_eq_true h1
    try simp only [Int.ofNat_eq_natCast, ge_iff_le, gt_iff_lt, Int.not_lt, Int.not_le] at g1
    cases h2 : (!decide (s < 256)) with
    | true =>
      have g2 : ¬ (s < 256) := by simpa using h2
      refine ⟨2000, _, _, _, hd_1 .., (ob_cons ?_ (ob_cons rfl (ob_cons (Nat.le_refl _) (ob_cons (.inl ⟨rfl, rfl⟩) (ob_cons rfl (ob_cons rfl (ob_cons rfl (ob_cons rfl (ob_cons h2 (ob_cons h1 ob_nil))))))))))⟩
      ·
        first | exact wrap_nat64 _ (by simp; omega) (by simp; omega) | (rw [head_raw (by decide) (by decide) p0 p1]; unfold hHead; rw [if_neg (by simp at h2; omega)]; done) | (rw [head_raw (by decide) (by decide) p0 p1]; unfold hHead; rw [if_neg (by omega)]; done) | (simp at h2; rw [i64w (x := s + 1) (by omega) (by omega), u64w (x := s + 1) (by omega) (by omega), head_raw (by omega) (by omega) p0 p1]; unfold hHead; rw [if_pos (by omega)])
    | false =>
      have g2 : (s < 256) := by simpa using h2
      refine ⟨2000, _, _, _, hd_2 .., (ob_cons ?_ (ob_cons rfl (ob_cons (Nat.le_refl _) (ob_cons (.inl ⟨rfl, rfl⟩) (ob_cons rfl (ob_cons rfl (ob_cons rfl (ob_cons rfl (ob_cons h2 (ob_cons h1 ob_nil))))))))))⟩
      ·
        first | exact wrap_nat64 _ (by simp; omega) (by simp; omega) | (rw [head_raw (by decide) (by decide) p0 p1]; unfold hHead; rw [if_neg (by simp at h2; omega)]; done) | (rw [head_raw (by decide) (by decide) p0 p1]; unfold hHead; rw [if_neg (by omega)]; done) | (simp at h2; rw [i64w (x := s + 1) (by omega) (by omega), u64w (x := s + 1) (by omega) (by omega), head_raw (by omega) (by omega) p0 p1]; unfold hHead; rw [if_pos (by omega)])
  | false =>
    have g1 := of_decide_eq_false h1
    try simp only [Int.ofNat_eq_natCast, ge_iff_le, gt_iff_lt, Int.not_lt, Int.not_le] at g1
    refine ⟨2000, _, _, _, hd_3 .., (ob_cons ?_ (ob_cons rfl (ob_cons (Nat.le_refl _) (ob_cons (.inl ⟨rfl, rfl⟩) (ob_cons rfl (ob_cons rfl (ob_cons rfl (ob_cons rfl (ob_cons h1 ob_nil)))))))))⟩
    ·
      first | exact wrap_nat64 _ (by simp; omega) (by simp; omega) | (rw [head_raw (by decide) (by decide) p0 p1]; unfold hHead; rw [if_neg (by simp at h2; omega)]; done) | (rw [head_raw (by decide) (by decide) p0 p1]; unfold hHead; rw [if_neg (by omega)]; done) | (simp at h2; rw [i64w (x := s + 1) (by omega) (by omega), u64w (x := s + 1) (by omega) (by omega), head_raw (by omega) (by omega) p0 p1]; unfold hHead; rw [if_pos (by omega)])
theorem ahr_1 (w : Int) : callB EM0 2000 158 [AV.sym IntKind.u64 w] (ahrH w) (ahrR w) [] [] =
 some ([(if 4 < IntKind.u8.wrap (IntKind.u64.wrap ↑(BitVec.ofInt 64 (w.fdiv 1) &&& BitVec.ofInt 64 7).toNat) then 4 else IntKind.u8.wrap (IntKind.u64.wrap ↑(BitVec.ofInt 64 (w.fdiv 1) &&& BitVec.ofInt 64 7).toNat)) = hdrS w,
 IntKind.u32.wrap (IntKind.u64.wrap ↑(BitVec.ofInt 64 (w.fdiv 8) &&& BitVec.ofInt 64 4294967295).toNat) = hdrG w,
 true = true,
 (1 : Nat) ≤ (1 : Nat),
 tabF tab = tabF tab ∧ plainSh (List.map kindOfV tab) = true ∨ ∀ (i : Nat), i < 1 → rowOb (List.map kindOfV tab) 0 (tabF tab i) (tabF tab i),
 decide ((0 : Int) ≤ (32 : Int)) = true,
 Nat.blt 0 1 = true,
 decide ((0 : Int) ≤ (3 : Int)) = true,
 Nat.blt 0 1 = true,
 decide ((0 : Int) ≤ (3 : Int)) = true,
 Nat.blt 0 1 = true,
 decide ((0 : Int) ≤ (0 : Int)) = true,
 Nat.blt 0 1 = true]) := by kernel_rfl
theorem ahr_loc (w : Int) : LocOk Tryd.prog 158 [.sym .u64 w] (ahrH w) (ahrR w) := by
  refine loc_of_call EM0_ok (fun hp => ?_)
  have p0 : 0 ≤ w := hp _ (List.mem_cons_self ..)
  have p1 : w < 18446744073709551616 := hp _ (List.mem_cons_of_mem _ (List.mem_cons_self ..))
  clear hp
  refine ⟨2000, _, _, _, ahr_1 .., (ob_cons ?_ (ob_cons ?_ (ob_cons rfl (ob_cons (Nat.le_refl _) (ob_cons (.inl ⟨rfl, rfl⟩) (ob_cons rfl (ob_cons rfl (ob_cons rfl (ob_cons rfl (ob_cons rfl (ob_cons rfl (ob_cons rfl (ob_cons rfl ob_nil)))))))))))))⟩
  ·
    first | rfl | exact hdrG_raw p0 p1 | (rw [hdrS_raw p0 p1]; rfl)
  ·
    first | exact wrap_nat64 _ (by simp; omega) (by simp; omega) | exact hdrG_raw p0 p1 | (rw [hdrS_raw p0 p1]; rfl)
theorem hdr_1 (s t : Int) : callB EM0 2000 88 [AV.sym IntKind.u8 s, AV.sym IntKind.u32 t] (hdrH s t) (hdrR s t) [] [] =
 some ([IntKind.u64.wrap ↑(BitVec.ofInt 64 (IntKind.u64.wrap ↑(BitVec.ofInt 64 0 ||| BitVec.ofInt 64 (IntKind.u64.wrap (IntKind.u64.wrap ↑(BitVec.ofInt 64 (IntKind.u64.wrap (if 4 < s then 4 else s)) &&& BitVec.ofInt 64 7).toNat * 1))).toNat) ||| BitVec.ofInt 64 (IntKind.u64.wrap (IntKind.u64.wrap ↑(BitVec.ofInt 64 (IntKind.u64.wrap t) &&& BitVec.ofInt 64 4294967295).toNat * 8))).toNat = hdr s t,
 true = true,
 (1 : Nat) ≤ (1 : Nat),
 tabF tab = tabF tab ∧ plainSh (List.map kindOfV tab) = true ∨ ∀ (i : Nat), i < 1 → rowOb (List.map kindOfV tab) 0 (tabF tab i) (tabF tab i),
 decide ((0 : Int) ≤ (3 : Int)) = true,
 Nat.blt 0 1 = true,
 decide ((0 : Int) ≤ (32 : Int)) = true,
 Nat.blt 0 1 = true,
 decide ((0 : Int) ≤ (0 : Int)) = true,
 Nat.blt 0 1 = true,
 decide ((0 : Int) ≤ (3 : Int)) = true,
 Nat.blt 0 1 = true]) := by kernel_rfl
theorem hdr_loc (s t : Int) : LocOk Tryd.prog 88 [.sym .u8 s, .sym .u32 t] (hdrH s t) (hdrR s t) := by
  refine loc_of_call EM0_ok (fun hp => ?_)
  have s0 : 0 ≤ s := hp _ (List.mem_cons_self ..)
  have s1 : s < 256 := hp _ (List.mem_cons_of_mem _ (List.mem_cons_self ..))
  have p0 : 0 ≤ t := hp _ (List.mem_cons_of_mem _ (List.mem_cons_of_mem _ (List.mem_cons_self ..)))
  have p1 : t < 4294967296 := hp _ (List.mem_cons_of_mem _ (List.mem_cons_of_mem _ (List.mem_cons_of_mem _ (List.mem_cons_self ..))))
  clear hp
  refine ⟨2000, _, _, _, hdr_1 .., (ob_cons ?_ (ob_cons rfl (ob_cons (Nat.le_refl _) (ob_cons (.inl ⟨rfl, rfl⟩) (ob_cons rfl (ob_cons rfl (ob_cons rfl (ob_cons rfl (ob_cons rfl (ob_cons rfl (ob_cons rfl (ob_cons rfl ob_nil))))))))))))⟩
  ·
    first | exact wrap_nat64 _ (by simp; omega) (by simp; omega) | exact hdr_raw s0 s1 p0 p1
theorem asb_1 (w : Int) : callB EM0 2000 32 [AV.sym IntKind.u64 w] (asbH w) (asbR w) [] [] =
 some ([IntKind.u32.wrap (IntKind.u64.wrap ↑(BitVec.ofInt 64 (w.fdiv 1) &&& BitVec.ofInt 64 4294967295).toNat) = bkN w,
 (IntKind.u8.wrap (IntKind.u64.wrap ↑(BitVec.ofInt 64 (w.fdiv 4294967296) &&& BitVec.ofInt 64 1).toNat) == 1) = bkC w,
 true = true,
 (1 : Nat) ≤ (1 : Nat),
 tabF tab = tabF tab ∧ plainSh (List.map kindOfV tab) = true ∨ ∀ (i : Nat), i < 1 → rowOb (List.map kindOfV tab) 0 (tabF tab i) (tabF tab i),
 decide ((0 : Int) ≤ (1 : Int)) = true,
 Nat.blt 0 1 = true,
 decide ((0 : Int) ≤ (32 : Int)) = true,
 Nat.blt 0 1 = true,
 decide ((0 : Int) ≤ (32 : Int)) = true,
 Nat.blt 0 1 = true,
 decide ((0 : Int) ≤ (0 : Int)) = true,
 Nat.blt 0 1 = true]) := by kernel_rfl
theorem asb_loc (w : Int) : LocOk Tryd.prog 32 [.sym .u64 w] (asbH w) (asbR w) := by
  refine loc_of_call EM0_ok (fun hp => ?_)
  have p0 : 0 ≤ w := hp _ (List.mem_cons_self ..)
  have p1 : w < 18446744073709551616 := hp _ (List.mem_cons_of_mem _ (List.mem_cons_self ..))
  clear hp
  refine ⟨2000, _, _, _, asb_1 .., (ob_cons ?_ (ob_cons ?_ (ob_cons rfl (ob_cons (Nat.le_refl _) (ob_cons (.inl ⟨rfl, rfl⟩) (ob_cons rfl (ob_cons rfl (ob_cons rfl (ob_cons rfl (ob_cons rfl (ob_cons rfl (ob_cons rfl (ob_cons rfl ob_nil)))))))))))))⟩
  ·
    first | exact bkN_raw p0 p1 | exact bkC_raw p0 p1 | (rw [bkN_raw p0 p1]; done) | (rw [bkC_raw p0 p1]; done) | exact rfl | exact wrap_nat64 _ (by simp; omega) (by simp; omega)
  ·
    first | exact bkN_raw p0 p1 | exact bkC_raw p0 p1 | (rw [bkN_raw p0 p1]; done) | (rw [bkC_raw p0 p1]; done) | exact rfl | rfl
theorem blkf_1 (n : Int) : callB EM0 2000 185 [AV.sym IntKind.u32 n, AV.symb false] (blkfH n) (blkfR n) [] [Hint.node [], Hint.b false] =
 some ([IntKind.u64.wrap ↑(BitVec.ofInt 64 0 ||| BitVec.ofInt 64 (IntKind.u64.wrap (IntKind.u64.wrap ↑(BitVec.ofInt 64 (IntKind.u64.wrap n) &&& BitVec.ofInt 64 4294967295).toNat * 1))).toNat = bk n false,
 true = true,
 (1 : Nat) ≤ (1 : Nat),
 tabF tab = tabF tab ∧ plainSh (List.map kindOfV tab) = true ∨ ∀ (i : Nat), i < 1 → rowOb (List.map kindOfV tab) 0 (tabF tab i) (tabF tab i),
 false = false,
 decide ((0 : Int) ≤ (0 : Int)) = true,
 Nat.blt 0 1 = true,
 decide ((0 : Int) ≤ (32 : Int)) = true,
 Nat.blt 0 1 = true]) := by kernel_rfl
theorem blkf_loc (n : Int) : LocOk Tryd.prog 185 [.sym .u32 n, .symb false] (blkfH n) (blkfR n) := by
  refine loc_of_call EM0_ok (fun hp => ?_)
  have p0 : 0 ≤ n := hp _ (List.mem_cons_self ..)
  have p1 : n < 4294967296 := hp _ (List.mem_cons_of_mem _ (List.mem_cons_self ..))
  clear hp
  have q := (bk0_raw p0 p1).trans (show n = bk n false by simp [bk])
  refine ⟨2000, _, _, _, blkf_1 .., (ob_cons ?_ (ob_cons rfl (ob_cons (Nat.le_refl _) (ob_cons (.inl ⟨rfl, rfl⟩) (ob_cons rfl (ob_cons rfl (ob_cons rfl (ob_cons rfl (ob_cons rfl ob_nil)))))))))⟩
  ·
    first | exact q | exact rfl | (simp; done) | exact wrap_nat64 _ (by simp; omega) (by simp; omega)
theorem blkt_1 (n : Int) : callB EM0 2000 185 [AV.sym IntKind.u32 n, AV.symb true] (blktH n) (blktR n) [] [Hint.node [], Hint.b true] =
 some ([IntKind.u64.wrap ↑(BitVec.ofInt 64 (IntKind.u64.wrap ↑(BitVec.ofInt 64 0 ||| BitVec.ofInt 64 (IntKind.u64.wrap (IntKind.u64.wrap ↑(BitVec.ofInt 64 (IntKind.u64.wrap n) &&& BitVec.ofInt 64 4294967295).toNat * 1))).toNat) ||| BitVec.ofInt 64 4294967296).toNat = bk n true,
 true = true,
 (1 : Nat) ≤ (1 : Nat),
 tabF tab = tabF tab ∧ plainSh (List.map kindOfV tab) = true ∨ ∀ (i : Nat), i < 1 → rowOb (List.map kindOfV tab) 0 (tabF tab i) (tabF tab i),
 decide ((0 : Int) ≤ (32 : Int)) = true,
 Nat.blt 0 1 = true,
 decide ((0 : Int) ≤ (1 : Int)) = true,
 Nat.blt 0 1 = true,
 true = true,
 decide ((0 : Int) ≤ (0 : Int)) = true,
 Nat.blt 0 1 = true,
 decide ((0 : Int) ≤ (32 : Int)) = true,
 Nat.blt 0 1 = true]) := by kernel_rfl
theorem blkt_loc (n : Int) : LocOk Tryd.prog 185 [.sym .u32 n, .symb true] (blktH n) (blktR n) := by
  refine loc_of_call EM0_ok (fun hp => ?_)
  have p0 : 0 ≤ n := hp _ (List.mem_cons_self ..)
  have p1 : n < 4294967296 := hp _ (List.mem_cons_of_mem _ (List.mem_cons_self ..))
  clear hp
  have q1 := (bk1_raw p0 p1).trans (show n + 4294967296 = bk n true by simp [bk])
  have q0 := bk0_raw p0 p1
  refine ⟨2000, _, _, _, blkt_1 .., (ob_cons ?_ (ob_cons rfl (ob_cons (Nat.le_refl _) (ob_cons (.inl ⟨rfl, rfl⟩) (ob_cons rfl (ob_cons rfl (ob_cons rfl (ob_cons rfl (ob_cons rfl (ob_cons rfl (ob_cons rfl (ob_cons rfl (ob_cons rfl ob_nil)))))))))))))⟩
  ·
    first | (rw [q0]; exact q1) | exact rfl | (simp; done) | (rw [q0]; exact q1) | exact wrap_nat64 _ (by simp; omega) (by simp; omega)
theorem blk_loc (n : Int) (c : Bool) : LocOk Tryd.prog 185 [.sym .u32 n, .symb c] [(gnm 0, tabAO tab)] (blkR n c) := by
  cases c
  · exact blkf_loc n
  · exact blkt_loc n
noncomputable def ashS : List AV → Option (AV × List Prop)
  | [.sym .u64 w] => some (.tup [.sym .i64 (hSlot w), .sym .u64 (hTag w)], [0 ≤ w, w < 18446744073709551616])
  | _ => none
theorem ashS_ok : ∀ la v ob, ashS la = some (v, ob) → TabPure Tryd.prog 107 la v ob 0 tab := by
  intro la v ob h
  unfold ashS at h
  split at h
  · cases h; exact tabPure_of_loc rfl (ash_loc _)
  · cases h
noncomputable def ashC : List AV → Option (AV × List Prop)
  | [.sym .u64 w] => match decide (0 ≤ w ∧ w < 18446744073709551616) with
    | true => some (.tup [.sym .i64 (hSlot w), .sym .u64 (hTag w)], [])
    | false => none
  | _ => none
theorem ashC_ok : ∀ la v ob, ashC la = some (v, ob) → TabPure Tryd.prog 107 la v ob 0 tab := by
  intro la v ob h
  unfold ashC at h
  split at h
  · split at h
    · rename_i hd
      have hd := of_decide_eq_true hd
      cases h
      intro ρ w0 hob hr hf hg xs hx
      exact tabPure_of_loc rfl (ash_loc _) ρ w0 (ob_cons hd.1 (ob_cons hd.2 ob_nil)) hr hf hg xs hx
    · cases h
  · cases h
noncomputable def hdS : List AV → Option (AV × List Prop)
  | [.sym .i64 s, .sym .u64 t] => some (.sym .u64 (hHead s t), [0 ≤ t, t < 18446744073709551616])
  | _ => none
theorem hdS_ok : ∀ la v ob, hdS la = some (v, ob) → TabPure Tryd.prog 189 la v ob 0 tab := by
  intro la v ob h
  unfold hdS at h
  split at h
  · cases h; exact tabPure_of_loc rfl (hd_loc _ _)
  · cases h
noncomputable def hdC : List AV → Option (AV × List Prop)
  | [.sym .i64 s, .sym .u64 t] => match decide (0 ≤ t ∧ t < 18446744073709551616) with
    | true => some (.sym .u64 (hHead s t), [])
    | false => none
  | _ => none
theorem hdC_ok : ∀ la v ob, hdC la = some (v, ob) → TabPure Tryd.prog 189 la v ob 0 tab := by
  intro la v ob h
  unfold hdC at h
  split at h
  · split at h
    · rename_i hd
      have hd := of_decide_eq_true hd
      cases h
      intro ρ w0 hob hr hf hg xs hx
      exact tabPure_of_loc rfl (hd_loc _ _) ρ w0 (ob_cons hd.1 (ob_cons hd.2 ob_nil)) hr hf hg xs hx
    · cases h
  · cases h
noncomputable def ahrS : List AV → Option (AV × List Prop)
  | [.sym .u64 w] => some (.tup [.sym .u8 (hdrS w), .sym .u32 (hdrG w)], [0 ≤ w, w < 18446744073709551616])
  | _ => none
theorem ahrS_ok : ∀ la v ob, ahrS la = some (v, ob) → TabPure Tryd.prog 158 la v ob 0 tab := by
  intro la v ob h
  unfold ahrS at h
  split at h
  · cases h; exact tabPure_of_loc rfl (ahr_loc _)
  · cases h
noncomputable def ahrC : List AV → Option (AV × List Prop)
  | [.sym .u64 w] => match decide (0 ≤ w ∧ w < 18446744073709551616) with
    | true => some (.tup [.sym .u8 (hdrS w), .sym .u32 (hdrG w)], [])
    | false => none
  | _ => none
theorem ahrC_ok : ∀ la v ob, ahrC la = some (v, ob) → TabPure Tryd.prog 158 la v ob 0 tab := by
  intro la v ob h
  unfold ahrC at h
  split at h
  · split at h
    · rename_i hd
      have hd := of_decide_eq_true hd
      cases h
      intro ρ w0 hob hr hf hg xs hx
      exact tabPure_of_loc rfl (ahr_loc _) ρ w0 (ob_cons hd.1 (ob_cons hd.2 ob_nil)) hr hf hg xs hx
    · cases h
  · cases h
noncomputable def hdrS : List AV → Option (AV × List Prop)
  | [.sym .u8 s, .sym .u32 t] => some (.sym .u64 (hdr s t), [0 ≤ s, s < 256, 0 ≤ t, t < 4294967296])
  | _ => none
theorem hdrS_ok : ∀ la v ob, hdrS la = some (v, ob) → TabPure Tryd.prog 88 la v ob 0 tab := by
  intro la v ob h
  unfold hdrS at h
  split at h
  · cases h; exact tabPure_of_loc rfl (hdr_loc _ _)
  · cases h
noncomputable def hdrC : List AV → Option (AV × List Prop)
  | [.sym .u8 s, .sym .u32 t] => match decide (0 ≤ s ∧ s < 256 ∧ 0 ≤ t ∧ t < 4294967296) with
    | true => some (.sym .u64 (hdr s t), [])
    | false => none
  | _ => none
theorem hdrC_ok : ∀ la v ob, hdrC la = some (v, ob) → TabPure Tryd.prog 88 la v ob 0 tab := by
  intro la v ob h
  unfold hdrC at h
  split at h
  · split at h
    · rename_i hd
      have hd := of_decide_eq_true hd
      cases h
      intro ρ w0 hob hr hf hg xs hx
      exact tabPure_of_loc rfl (hdr_loc _ _) ρ w0 (ob_cons hd.1 (ob_cons hd.2.1 (ob_cons hd.2.2.1 (ob_cons hd.2.2.2 ob_nil)))) hr hf hg xs hx
    · cases h
  · cases h
noncomputable def asbS : List AV → Option (AV × List Prop)
  | [.sym .u64 w] => some (.tup [.sym .u32 (bkN w), .symb (bkC w)], [0 ≤ w, w < 18446744073709551616])
  | _ => none
theorem asbS_ok : ∀ la v ob, asbS la = some (v, ob) → TabPure Tryd.prog 32 la v ob 0 tab := by
  intro la v ob h
  unfold asbS at h
  split at h
  · cases h; exact tabPure_of_loc rfl (asb_loc _)
  · cases h
noncomputable def asbC : List AV → Option (AV × List Prop)
  | [.sym .u64 w] => match decide (0 ≤ w ∧ w < 18446744073709551616) with
    | true => some (.tup [.sym .u32 (bkN w), .symb (bkC w)], [])
    | false => none
  | _ => none
theorem asbC_ok : ∀ la v ob, asbC la = some (v, ob) → TabPure Tryd.prog 32 la v ob 0 tab := by
  intro la v ob h
  unfold asbC at h
  split at h
  · split at h
    · rename_i hd
      have hd := of_decide_eq_true hd
      cases h
      intro ρ w0 hob hr hf hg xs hx
      exact tabPure_of_loc rfl (asb_loc _) ρ w0 (ob_cons hd.1 (ob_cons hd.2 ob_nil)) hr hf hg xs hx
    · cases h
  · cases h
noncomputable def blkS : List AV → Option (AV × List Prop)
  | [.sym .u32 n, .symb c] => some (.sym .u64 (bk n c), [0 ≤ n, n < 4294967296])
  | _ => none
theorem blkS_ok : ∀ la v ob, blkS la = some (v, ob) → TabPure Tryd.prog 185 la v ob 0 tab := by
  intro la v ob h
  unfold blkS at h
  split at h
  · cases h; exact tabPure_of_loc rfl (blk_loc _ _)
  · cases h
noncomputable def blkC : List AV → Option (AV × List Prop)
  | [.sym .u32 n, .symb c] => match decide (0 ≤ n ∧ n < 4294967296) with
    | true => some (.sym .u64 (bk n c), [])
    | false => none
  | _ => none
theorem blkC_ok : ∀ la v ob, blkC la = some (v, ob) → TabPure Tryd.prog 185 la v ob 0 tab := by
  intro la v ob h
  unfold blkC at h
  split at h
  · split at h
    · rename_i hd
      have hd := of_decide_eq_true hd
      cases h
      intro ρ w0 hob hr hf hg xs hx
      exact tabPure_of_loc rfl (blk_loc _ _) ρ w0 (ob_cons hd.1 (ob_cons hd.2 ob_nil)) hr hf hg xs hx
    · cases h
  · cases h
/-- Words in closed runs. -/
noncomputable def wdC : List (FuncId × SP) := [(107, tabSPc 0 tab ashC), (189, tabSPc 0 tab hdC), (158, tabSPc 0 tab ahrC), (88, tabSPc 0 tab hdrC), (32, tabSPc 0 tab asbC), (185, tabSPc 0 tab blkC)]
theorem wdC_ok : SPsOk Tryd.prog wdC := ⟨tabSPc_ok rfl ashC_ok, tabSPc_ok rfl hdC_ok, tabSPc_ok rfl ahrC_ok, tabSPc_ok rfl hdrC_ok, tabSPc_ok rfl asbC_ok, tabSPc_ok rfl blkC_ok, trivial⟩
/-- Words. -/
noncomputable def wdS : List (FuncId × SP) := [(107, tabSP 0 tab ashS), (189, tabSP 0 tab hdS), (158, tabSP 0 tab ahrS), (88, tabSP 0 tab hdrS), (32, tabSP 0 tab asbS), (185, tabSP 0 tab blkS)]
theorem wdS_ok : SPsOk Tryd.prog wdS := ⟨tabSP_ok rfl ashS_ok, tabSP_ok rfl hdS_ok, tabSP_ok rfl ahrS_ok, tabSP_ok rfl hdrS_ok, tabSP_ok rfl asbS_ok, tabSP_ok rfl blkS_ok, trivial⟩
end Go.Proofs.YtljeiencnpnbkaaDoor
