/-
  Words of refs.
-/
import Derived.Test.YtljeiencnpnbkaaDoorUWrDef
set_option linter.unusedSimpArgs false
set_option linter.unusedVariables false
namespace Go.Proofs.YtljeiencnpnbkaaDoor
open Go.Ev
theorem unm_1 (w : Int) : callB EM0 2000 59 [AV.sym IntKind.u64 w] (unmH w) (unmR w) [] [] =
 some ([IntKind.u64.wrap ↑(BitVec.ofInt 64 w &&& ~~~BitVec.ofInt 64 9223372036854775808).toNat = hUn w,
 true = true,
 (1 : Nat) ≤ (1 : Nat),
 tabF tab = tabF tab ∧ plainSh (List.map kindOfV tab) = true ∨ ∀ (i : Nat), i < 1 → rowOb (List.map kindOfV tab) 0 (tabF tab i) (tabF tab i)]) := by kernel_rfl
theorem unm_loc (w : Int) : LocOk Tryd.prog 59 [.sym .u64 w] (unmH w) (unmR w) := by
  refine loc_of_call EM0_ok (fun hp => ?_)
  have p0 : 0 ≤ w := hp _ (List.mem_cons_self ..)
  have p1 : w < 18446744073709551616 := hp _ (List.mem_cons_of_mem _ (List.mem_cons_self ..))
  clear hp
  refine ⟨2000, _, _, _, unm_1 .., (ob_cons ?_ (ob_cons rfl (ob_cons (Nat.le_refl _) (ob_cons (.inl ⟨rfl, rfl⟩) ob_nil))))⟩
  ·
    first | exact wrap_nat64 _ (by simp; omega) (by simp; omega) | exact un_raw p0 p1
theorem arf_1 (w : Int) : callB EM0 2000 111 [AV.sym IntKind.u64 w] (arfH w) (arfR w) [] [Hint.node [], Hint.b true, Hint.b true, Hint.b true] =
 some ([IntKind.i64.wrap (IntKind.i64.wrap (IntKind.u16.wrap (IntKind.u64.wrap ↑(BitVec.ofInt 64 (w.fdiv 1) &&& BitVec.ofInt 64 65535).toNat)) - 1) = hSlot w,
 IntKind.u32.wrap (IntKind.u64.wrap ↑(BitVec.ofInt 64 (w.fdiv 65536) &&& BitVec.ofInt 64 4294967295).toNat) = rGen w,
 (w.fdiv 9223372036854775808 == 1) = false,
 true = true,
 (1 : Nat) ≤ (1 : Nat),
 tabF tab = tabF tab ∧ plainSh (List.map kindOfV tab) = true ∨ ∀ (i : Nat), i < 1 → rowOb (List.map kindOfV tab) 0 (tabF tab i) (tabF tab i),
 decide ((0 : Int) ≤ (32 : Int)) = true,
 Nat.blt 0 1 = true,
 decide ((0 : Int) ≤ (16 : Int)) = true,
 Nat.blt 0 1 = true,
 (IntKind.i64.wrap (IntKind.i64.wrap (IntKind.u16.wrap (IntKind.u64.wrap ↑(BitVec.ofInt 64 (w.fdiv 1) &&& BitVec.ofInt 64 65535).toNat)) - 1) != -1) = true,
 decide (IntKind.i64.wrap (IntKind.i64.wrap (IntKind.u16.wrap (IntKind.u64.wrap ↑(BitVec.ofInt 64 (w.fdiv 1) &&& BitVec.ofInt 64 65535).toNat)) - 1) < 256) = true,
 decide (IntKind.i64.wrap (IntKind.i64.wrap (IntKind.u16.wrap (IntKind.u64.wrap ↑(BitVec.ofInt 64 (w.fdiv 1) &&& BitVec.ofInt 64 65535).toNat)) - 1) ≥ 0) = true,
 decide ((0 : Int) ≤ (16 : Int)) = true,
 Nat.blt 0 1 = true,
 decide ((0 : Int) ≤ (0 : Int)) = true,
 Nat.blt 0 1 = true]) := by kernel_rfl
theorem arf_2 (w : Int) : callB EM0 2000 111 [AV.sym IntKind.u64 w] (arfH w) (arfR w) [] [Hint.node [], Hint.b true, Hint.b false] =
 some ([-1 = hSlot w,
 0 = rGen w,
 (w.fdiv 9223372036854775808 == 1) = false,
 true = true,
 (1 : Nat) ≤ (1 : Nat),
 tabF tab = tabF tab ∧ plainSh (List.map kindOfV tab) = true ∨ ∀ (i : Nat), i < 1 → rowOb (List.map kindOfV tab) 0 (tabF tab i) (tabF tab i),
 decide (IntKind.i64.wrap (IntKind.i64.wrap (IntKind.u16.wrap (IntKind.u64.wrap ↑(BitVec.ofInt 64 (w.fdiv 1) &&& BitVec.ofInt 64 65535).toNat)) - 1) < 256) = false,
 decide (IntKind.i64.wrap (IntKind.i64.wrap (IntKind.u16.wrap (IntKind.u64.wrap ↑(BitVec.ofInt 64 (w.fdiv 1) &&& BitVec.ofInt 64 65535).toNat)) - 1) ≥ 0) = true,
 decide ((0 : Int) ≤ (16 : Int)) = true,
 Nat.blt 0 1 = true,
 decide ((0 : Int) ≤ (0 : Int)) = true,
 Nat.blt 0 1 = true]) := by kernel_rfl
theorem arf_3 (w : Int) : callB EM0 2000 111 [AV.sym IntKind.u64 w] (arfH w) (arfR w) [] [Hint.node [], Hint.b false] =
 some ([-1 = hSlot w,
 0 = rGen w,
 (w.fdiv 9223372036854775808 == 1) = false,
 true = true,
 (1 : Nat) ≤ (1 : Nat),
 tabF tab = tabF tab ∧ plainSh (List.map kindOfV tab) = true ∨ ∀ (i : Nat), i < 1 → rowOb (List.map kindOfV tab) 0 (tabF tab i) (tabF tab i),
 decide (IntKind.i64.wrap (IntKind.i64.wrap (IntKind.u16.wrap (IntKind.u64.wrap ↑(BitVec.ofInt 64 (w.fdiv 1) &&& BitVec.ofInt 64 65535).toNat)) - 1) ≥ 0) = false,
 decide ((0 : Int) ≤ (16 : Int)) = true,
 Nat.blt 0 1 = true,
 decide ((0 : Int) ≤ (0 : Int)) = true,
 Nat.blt 0 1 = true]) := by kernel_rfl
theorem arf_loc (w : Int) : LocOk Tryd.prog 111 [.sym .u64 w] (arfH w) (arfR w) := by
  refine loc_of_call EM0_ok (fun hp => ?_)
  have p0 : 0 ≤ w := hp _ (List.mem_cons_self ..)
  have p1 : w < 9223372036854775808 := hp _ (List.mem_cons_of_mem _ (List.mem_cons_self ..))
  clear hp
  cases h1 : (decide   (IntKind.i64.wrap       (IntKind.i64.wrap           (IntKind.u16.wrap (IntKind.u64.wrap ↑(BitVec.ofInt 64 (w.fdiv 1) &&& BitVec.ofInt 64 65535).toNat)) -         1) ≥     0)) with
  | true =>
    have g1 := of_decide_eq_true h1
    try simp only [Int.ofNat_eq_natCast, ge_iff_le, gt_iff_lt, Int.not_lt, Int.not_le] at g1
    cases h2 : (decide   (IntKind.i64.wrap       (IntKind.i64.wrap           (IntKind.u16.wrap (IntKind.u64.wrap ↑(BitVec.ofInt 64 (w.fdiv 1) &&& BitVec.ofInt 64 65535).toNat)) -         1) <     256)) with
    | true =>
      have g2 := of_decide_eq_true h2
      try simp only [Int.ofNat_eq_natCast, ge_iff_le, gt_iff_lt, Int.not_lt, Int.not_le] at g2
      refine ⟨2000, _, _, _, arf_1 .., (ob_cons ?_ (ob_cons ?_ (ob_cons ?_ (ob_cons rfl (ob_cons (Nat.le_refl _) (ob_cons (.inl ⟨rfl, rfl⟩) (ob_cons rfl (ob_cons rfl (ob_cons rfl (ob_cons rfl (ob_cons ?_ (ob_cons h2 (ob_cons h1 (ob_cons rfl (ob_cons rfl (ob_cons rfl (ob_cons rfl ob_nil)))))))))))))))))⟩
      ·
        first | exact rfl | exact mk_raw p0 p1 | (simp only [slot_raw p0 (by omega)] at g1 g2 ⊢; unfold hSlot; rw [if_pos (by omega)]; done) | (simp only [slot_raw p0 (by omega)] at g1 g2 ⊢; unfold hSlot; rw [if_neg (by omega)]; done) | (simp only [slot_raw p0 (by omega)] at g1 ⊢; unfold hSlot; rw [if_neg (by omega)]; done) | (simp only [slot_raw p0 (by omega)] at g1 g2; rw [gen_raw p0 p1]; unfold rGen; rw [if_pos (by unfold hSlot; rw [if_pos (by omega)]; omega)]; done) | (simp only [slot_raw p0 (by omega)] at g1 g2; unfold rGen; rw [if_neg (by unfold hSlot; rw [if_neg (by omega)]; decide)]; done) | (simp only [slot_raw p0 (by omega)] at g1; unfold rGen; rw [if_neg (by unfold hSlot; rw [if_neg (by omega)]; decide)]; done) | (simp only [slot_raw p0 (by omega)] at g1 ⊢; simp; omega) | omega | exact wrap_nat64 _ (by simp; omega) (by simp; omega)
      ·
        first | exact rfl | exact mk_raw p0 p1 | (simp only [slot_raw p0 (by omega)] at g1 g2 ⊢; unfold hSlot; rw [if_pos (by omega)]; done) | (simp only [slot_raw p0 (by omega)] at g1 g2 ⊢; unfold hSlot; rw [if_neg (by omega)]; done) | (simp only [slot_raw p0 (by omega)] at g1 ⊢; unfold hSlot; rw [if_neg (by omega)]; done) | (simp only [slot_raw p0 (by omega)] at g1 g2; rw [gen_raw p0 p1]; unfold rGen; rw [if_pos (by unfold hSlot; rw [if_pos (by omega)]; omega)]; done) | (simp only [slot_raw p0 (by omega)] at g1 g2; unfold rGen; rw [if_neg (by unfold hSlot; rw [if_neg (by omega)]; decide)]; done) | (simp only [slot_raw p0 (by omega)] at g1; unfold rGen; rw [if_neg (by unfold hSlot; rw [if_neg (by omega)]; decide)]; done) | (simp only [slot_raw p0 (by omega)] at g1 ⊢; simp; omega) | omega | exact wrap_nat64 _ (by simp; omega) (by simp; omega)
      ·
        first | exact rfl | exact mk_raw p0 p1 | (simp only [slot_raw p0 (by omega)] at g1 g2 ⊢; unfold hSlot; rw [if_pos (by omega)]; done) | (simp only [slot_raw p0 (by omega)] at g1 g2 ⊢; unfold hSlot; rw [if_neg (by omega)]; done) | (simp only [slot_raw p0 (by omega)] at g1 ⊢; unfold hSlot; rw [if_neg (by omega)]; done) | (simp only [slot_raw p0 (by omega)] at g1 g2; rw [gen_raw p0 p1]; unfold rGen; rw [if_pos (by unfold hSlot; rw [if_pos (by omega)]; omega)]; done) | (simp only [slot_raw p0 (by omega)] at g1 g2; unfold rGen; rw [if_neg (by unfold hSlot; rw [if_neg (by omega)]; decide)]; done) | (simp only [slot_raw p0 (by omega)] at g1; unfold rGen; rw [if_neg (by unfold hSlot; rw [if_neg (by omega)]; decide)]; done) | (simp only [slot_raw p0 (by omega)] at g1 ⊢; simp; omega) | omega | (apply Nat.ble_eq_true_of_le; omega) | (simp [Nat.blt_eq]; omega)
      ·
        first | exact rfl | exact mk_raw p0 p1 | (simp only [slot_raw p0 (by omega)] at g1 g2 ⊢; unfold hSlot; rw [if_pos (by omega)]; done) | (simp only [slot_raw p0 (by omega)] at g1 g2 ⊢; unfold hSlot; rw [if_neg (by omega)]; done) | (simp only [slot_raw p0 (by omega)] at g1 ⊢; unfold hSlot; rw [if_neg (by omega)]; done) | (simp only [slot_raw p0 (by omega)] at g1 g2; rw [gen_raw p0 p1]; unfold rGen; rw [if_pos (by unfold hSlot; rw [if_pos (by omega)]; omega)]; done) | (simp only [slot_raw p0 (by omega)] at g1 g2; unfold rGen; rw [if_neg (by unfold hSlot; rw [if_neg (by omega)]; decide)]; done) | (simp only [slot_raw p0 (by omega)] at g1; unfold rGen; rw [if_neg (by unfold hSlot; rw [if_neg (by omega)]; decide)]; done) | (simp only [slot_raw p0 (by omega)] at g1 ⊢; simp; omega) | omega | (apply Nat.ble_eq_true_of_le; omega) | (simp [Nat.blt_eq]; omega)
    | false =>
      have g2 := of_decide_eq_false h2
      try simp only [Int.ofNat_eq_natCast, ge_iff_le, gt_iff_lt, Int.not_lt, Int.not_le] at g2
      refine ⟨2000, _, _, _, arf_2 .., (ob_cons ?_ (ob_cons ?_ (ob_cons ?_ (ob_cons rfl (ob_cons (Nat.le_refl _) (ob_cons (.inl ⟨rfl, rfl⟩) (ob_cons h2 (ob_cons h1 (ob_cons rfl (ob_cons rfl (ob_cons rfl (ob_cons rfl ob_nil))))))))))))⟩
      ·
        first | exact rfl | exact mk_raw p0 p1 | (simp only [slot_raw p0 (by omega)] at g1 g2 ⊢; unfold hSlot; rw [if_pos (by omega)]; done) | (simp only [slot_raw p0 (by omega)] at g1 g2 ⊢; unfold hSlot; rw [if_neg (by omega)]; done) | (simp only [slot_raw p0 (by omega)] at g1 ⊢; unfold hSlot; rw [if_neg (by omega)]; done) | (simp only [slot_raw p0 (by omega)] at g1 g2; rw [gen_raw p0 p1]; unfold rGen; rw [if_pos (by unfold hSlot; rw [if_pos (by omega)]; omega)]; done) | (simp only [slot_raw p0 (by omega)] at g1 g2; unfold rGen; rw [if_neg (by unfold hSlot; rw [if_neg (by omega)]; decide)]; done) | (simp only [slot_raw p0 (by omega)] at g1; unfold rGen; rw [if_neg (by unfold hSlot; rw [if_neg (by omega)]; decide)]; done) | (simp only [slot_raw p0 (by omega)] at g1 ⊢; simp; omega) | omega | rfl
      ·
        first | exact rfl | exact mk_raw p0 p1 | (simp only [slot_raw p0 (by omega)] at g1 g2 ⊢; unfold hSlot; rw [if_pos (by omega)]; done) | (simp only [slot_raw p0 (by omega)] at g1 g2 ⊢; unfold hSlot; rw [if_neg (by omega)]; done) | (simp only [slot_raw p0 (by omega)] at g1 ⊢; unfold hSlot; rw [if_neg (by omega)]; done) | (simp only [slot_raw p0 (by omega)] at g1 g2; rw [gen_raw p0 p1]; unfold rGen; rw [if_pos (by unfold hSlot; rw [if_pos (by omega)]; omega)]; done) | (simp only [slot_raw p0 (by omega)] at g1 g2; unfold rGen; rw [if_neg (by unfold hSlot; rw [if_neg (by omega)]; decide)]; done) | (simp only [slot_raw p0 (by omega)] at g1; unfold rGen; rw [if_neg (by unfold hSlot; rw [if_neg (by omega)]; decide)]; done) | (simp only [slot_raw p0 (by omega)] at g1 ⊢; simp; omega) | omega | rfl
      ·
        first | exact rfl | exact mk_raw p0 p1 | (simp only [slot_raw p0 (by omega)] at g1 g2 ⊢; unfold hSlot; rw [if_pos (by omega)]; done) | (simp only [slot_raw p0 (by omega)] at g1 g2 ⊢; unfold hSlot; rw [if_neg (by omega)]; done) | (simp only [slot_raw p0 (by omega)] at g1 ⊢; unfold hSlot; rw [if_neg (by omega)]; done) | (simp only [slot_raw p0 (by omega)] at g1 g2; rw [gen_raw p0 p1]; unfold rGen; rw [if_pos (by unfold hSlot; rw [if_pos (by omega)]; omega)]; done) | (simp only [slot_raw p0 (by omega)] at g1 g2; unfold rGen; rw [if_neg (by unfold hSlot; rw [if_neg (by omega)]; decide)]; done) | (simp only [slot_raw p0 (by omega)] at g1; unfold rGen; rw [if_neg (by unfold hSlot; rw [if_neg (by omega)]; decide)]; done) | (simp only [slot_raw p0 (by omega)] at g1 ⊢; simp; omega) | omega | (apply Nat.ble_eq_true_of_le; omega) | (simp [Nat.blt_eq]; omega)
  | false =>
    have g1 := of_decide_eq_false h1
    try simp only [Int.ofNat_eq_natCast, ge_iff_le, gt_iff_lt, Int.not_lt, Int.not_le] at g1
    refine ⟨2000, _, _, _, arf_3 .., (ob_cons ?_ (ob_cons ?_ (ob_cons ?_ (ob_cons rfl (ob_cons (Nat.le_refl _) (ob_cons (.inl ⟨rfl, rfl⟩) (ob_cons h1 (ob_cons rfl (ob_cons rfl (ob_cons rfl (ob_cons rfl ob_nil)))))))))))⟩
    ·
      first | exact rfl | exact mk_raw p0 p1 | (simp only [slot_raw p0 (by omega)] at g1 g2 ⊢; unfold hSlot; rw [if_pos (by omega)]; done) | (simp only [slot_raw p0 (by omega)] at g1 g2 ⊢; unfold hSlot; rw [if_neg (by omega)]; done) | (simp only [slot_raw p0 (by omega)] at g1 ⊢; unfold hSlot; rw [if_neg (by omega)]; done) | (simp only [slot_raw p0 (by omega)] at g1 g2; rw [gen_raw p0 p1]; unfold rGen; rw [if_pos (by unfold hSlot; rw [if_pos (by omega)]; omega)]; done) | (simp only [slot_raw p0 (by omega)] at g1 g2; unfold rGen; rw [if_neg (by unfold hSlot; rw [if_neg (by omega)]; decide)]; done) | (simp only [slot_raw p0 (by omega)] at g1; unfold rGen; rw [if_neg (by unfold hSlot; rw [if_neg (by omega)]; decide)]; done) | (simp only [slot_raw p0 (by omega)] at g1 ⊢; simp; omega) | omega | rfl
    ·
      first | exact rfl | exact mk_raw p0 p1 | (simp only [slot_raw p0 (by omega)] at g1 g2 ⊢; unfold hSlot; rw [if_pos (by omega)]; done) | (simp only [slot_raw p0 (by omega)] at g1 g2 ⊢; unfold hSlot; rw [if_neg (by omega)]; done) | (simp only [slot_raw p0 (by omega)] at g1 ⊢; unfold hSlot; rw [if_neg (by omega)]; done) | (simp only [slot_raw p0 (by omega)] at g1 g2; rw [gen_raw p0 p1]; unfold rGen; rw [if_pos (by unfold hSlot; rw [if_pos (by omega)]; omega)]; done) | (simp only [slot_raw p0 (by omega)] at g1 g2; unfold rGen; rw [if_neg (by unfold hSlot; rw [if_neg (by omega)]; decide)]; done) | (simp only [slot_raw p0 (by omega)] at g1; unfold rGen; rw [if_neg (by unfold hSlot; rw [if_neg (by omega)]; decide)]; done) | (simp only [slot_raw p0 (by omega)] at g1 ⊢; simp; omega) | omega | rfl
    ·
      first | exact rfl | exact mk_raw p0 p1 | (simp only [slot_raw p0 (by omega)] at g1 g2 ⊢; unfold hSlot; rw [if_pos (by omega)]; done) | (simp only [slot_raw p0 (by omega)] at g1 g2 ⊢; unfold hSlot; rw [if_neg (by omega)]; done) | (simp only [slot_raw p0 (by omega)] at g1 ⊢; unfold hSlot; rw [if_neg (by omega)]; done) | (simp only [slot_raw p0 (by omega)] at g1 g2; rw [gen_raw p0 p1]; unfold rGen; rw [if_pos (by unfold hSlot; rw [if_pos (by omega)]; omega)]; done) | (simp only [slot_raw p0 (by omega)] at g1 g2; unfold rGen; rw [if_neg (by unfold hSlot; rw [if_neg (by omega)]; decide)]; done) | (simp only [slot_raw p0 (by omega)] at g1; unfold rGen; rw [if_neg (by unfold hSlot; rw [if_neg (by omega)]; decide)]; done) | (simp only [slot_raw p0 (by omega)] at g1 ⊢; simp; omega) | omega | (apply Nat.ble_eq_true_of_le; omega) | (simp [Nat.blt_eq]; omega)
noncomputable def unmS : List AV → Option (AV × List Prop)
  | [.sym .u64 w] => some (.sym .u64 (hUn w), [0 ≤ w, w < 18446744073709551616])
  | _ => none
theorem unmS_ok : ∀ la v ob, unmS la = some (v, ob) → TabPure Tryd.prog 59 la v ob 0 tab := by
  intro la v ob h
  unfold unmS at h
  split at h
  · cases h; exact tabPure_of_loc rfl (unm_loc _)
  · cases h
noncomputable def unmC : List AV → Option (AV × List Prop)
  | [.sym .u64 w] => match decide (0 ≤ w ∧ w < 18446744073709551616) with
    | true => some (.sym .u64 (hUn w), [])
    | false => none
  | _ => none
theorem unmC_ok : ∀ la v ob, unmC la = some (v, ob) → TabPure Tryd.prog 59 la v ob 0 tab := by
  intro la v ob h
  unfold unmC at h
  split at h
  · split at h
    · rename_i hd
      have hd := of_decide_eq_true hd
      cases h
      intro ρ w0 hob hr hf hg xs hx
      exact tabPure_of_loc rfl (unm_loc _) ρ w0 (ob_cons hd.1 (ob_cons hd.2 ob_nil)) hr hf hg xs hx
    · cases h
  · cases h
noncomputable def arfS : List AV → Option (AV × List Prop)
  | [.sym .u64 w] => some (.agg [.sym .i64 (hSlot w), .sym .u32 (rGen w), .symb false], [0 ≤ w, w < 9223372036854775808])
  | _ => none
theorem arfS_ok : ∀ la v ob, arfS la = some (v, ob) → TabPure Tryd.prog 111 la v ob 0 tab := by
  intro la v ob h
  unfold arfS at h
  split at h
  · cases h; exact tabPure_of_loc rfl (arf_loc _)
  · cases h
noncomputable def arfC : List AV → Option (AV × List Prop)
  | [.sym .u64 w] => match decide (0 ≤ w ∧ w < 9223372036854775808) with
    | true => some (.agg [.sym .i64 (hSlot w), .sym .u32 (rGen w), .symb false], [])
    | false => none
  | _ => none
theorem arfC_ok : ∀ la v ob, arfC la = some (v, ob) → TabPure Tryd.prog 111 la v ob 0 tab := by
  intro la v ob h
  unfold arfC at h
  split at h
  · split at h
    · rename_i hd
      have hd := of_decide_eq_true hd
      cases h
      intro ρ w0 hob hr hf hg xs hx
      exact tabPure_of_loc rfl (arf_loc _) ρ w0 (ob_cons hd.1 (ob_cons hd.2 ob_nil)) hr hf hg xs hx
    · cases h
  · cases h
/-- Words in closed runs. -/
noncomputable def wrC : List (FuncId × SP) := [(59, tabSPc 0 tab unmC), (111, tabSPc 0 tab arfC)]
theorem wrC_ok : SPsOk Tryd.prog wrC := ⟨tabSPc_ok rfl unmC_ok, tabSPc_ok rfl arfC_ok, trivial⟩
/-- Words. -/
noncomputable def wrS : List (FuncId × SP) := [(59, tabSP 0 tab unmS), (111, tabSP 0 tab arfS)]
theorem wrS_ok : SPsOk Tryd.prog wrS := ⟨tabSP_ok rfl unmS_ok, tabSP_ok rfl arfS_ok, trivial⟩
end Go.Proofs.YtljeiencnpnbkaaDoor
