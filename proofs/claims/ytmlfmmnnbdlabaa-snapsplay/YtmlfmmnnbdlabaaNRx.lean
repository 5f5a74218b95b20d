/-
  Chapter 14: the document's Taker: the first line.
-/
import Derived.Test.YtmlfmmnnbdlabaaNRxDef
set_option linter.unusedSimpArgs false
set_option linter.unusedVariables false
namespace Go.Proofs.Ytmlfmmnnbdlabaa
open Go.Ev
theorem rlx_1 (s2 : Int) (L2 : LS) (k l : Nat) (g : Nat → Nat → AV) : callB EP0 3000 40 [AV.ptr 1 0 0, AV.ptr 2 0 0] (rlxH s2 L2 k l g) (rlxR s2 L2 k l g) [] [Hint.b true] =
 some ([4 = rbN k g,
 (0 : Nat) = 0,
 k = k,
 (none : Option Nat) = none,
 IntKind.i64.wrap (s2 + 1) = (rLoad (mkR k g s2 L2) 5 0 0).st,
 (1 : Int) = 1,
 (5 : Int) = 5,
 (0 : Int) = 0,
 (0 : Int) = 0,
 dWord (dOf k g) 5 0 0 = (rLoad (mkR k g s2 L2) 5 0 0).L.w,
 dWord (dOf k g) 5 0 0 = (rLoad (mkR k g s2 L2) 5 0 0).L.i,
 false = (rLoad (mkR k g s2 L2) 5 0 0).L.d,
 false = false,
 l ≤ l,
 g = g ∧ plainSh wSh = true ∨ ∀ (i : Nat), i < l → rowOb wSh 0 (g i) (g i),
 decide (dWord (dOf k g) 5 0 0 > 4) = true,
 k ≤ l,
 k ≤ 1000000]) := by kernel_rfl
theorem rlx_loc (s2 : Int) (L2 : LS) (k l : Nat) (g : Nat → Nat → AV) : LocOk Try.prog 40 [.ptr 1 0 0, .ptr 2 0 0] (rlxH s2 L2 k l g) (rlxR s2 L2 k l g) := by
  refine loc_of_call EP0_ok (fun hp => ?_)
  have hkl : k ≤ l := hp _ (List.mem_cons_self ..)
  have hkm : k ≤ 100000 := hp _ (List.mem_cons_of_mem _ (List.mem_cons_self ..))
  have h0 : 0 ≤ dWord (dOf k g) 5 0 0 := hp _ (List.mem_cons_of_mem _ (List.mem_cons_of_mem _ (List.mem_cons_self ..)))
  have hc : 4 < dWord (dOf k g) 5 0 0 := hp _ (List.mem_cons_of_mem _ (List.mem_cons_of_mem _ (List.mem_cons_of_mem _ (List.mem_cons_self ..))))
  clear hp
  have hq : decide (dWord (dOf k g) 5 0 0 > 4) = true := decide_eq_true hc
  have hw1 : 4 = rbN k g := by unfold rbN; rw [if_pos hc]

  refine ⟨3000, _, _, _, rlx_1 .., (ob_cons ?_ (ob_cons rfl (ob_cons rfl (ob_cons rfl (ob_cons ?_ (ob_cons rfl (ob_cons rfl (ob_cons rfl (ob_cons rfl (ob_cons ?_ (ob_cons ?_ (ob_cons ?_ (ob_cons rfl (ob_cons (Nat.le_refl _) (ob_cons (.inl ⟨rfl, rfl⟩) (ob_cons ?_ (ob_cons ?_ (ob_cons ?_ ob_nil))))))))))))))))))⟩
  · exact hw1
  · exact rfl
  · exact rfl
  · exact rfl
  · exact rfl
  · exact hq
  · exact hkl
  · omega
theorem rly_1 (s2 : Int) (L2 : LS) (k l : Nat) (g : Nat → Nat → AV) : callB EP0 3000 40 [AV.ptr 1 0 0, AV.ptr 2 0 0] (rlyH s2 L2 k l g) (rlyR s2 L2 k l g) [] [Hint.b false, Hint.b false] =
 some ([IntKind.i64.wrap (dWord (dOf k g) 5 0 0) = rbN k g,
 (0 : Nat) = 0,
 k = k,
 (none : Option Nat) = none,
 IntKind.i64.wrap (s2 + 1) = (rLoad (mkR k g s2 L2) 5 0 0).st,
 (1 : Int) = 1,
 (5 : Int) = 5,
 (0 : Int) = 0,
 (0 : Int) = 0,
 dWord (dOf k g) 5 0 0 = (rLoad (mkR k g s2 L2) 5 0 0).L.w,
 dWord (dOf k g) 5 0 0 = (rLoad (mkR k g s2 L2) 5 0 0).L.i,
 false = (rLoad (mkR k g s2 L2) 5 0 0).L.d,
 false = false,
 l ≤ l,
 g = g ∧ plainSh wSh = true ∨ ∀ (i : Nat), i < l → rowOb wSh 0 (g i) (g i),
 (dWord (dOf k g) 5 0 0 == 0) = false,
 decide (dWord (dOf k g) 5 0 0 > 4) = false,
 k ≤ l,
 k ≤ 1000000]) := by kernel_rfl
theorem rly_loc (s2 : Int) (L2 : LS) (k l : Nat) (g : Nat → Nat → AV) : LocOk Try.prog 40 [.ptr 1 0 0, .ptr 2 0 0] (rlyH s2 L2 k l g) (rlyR s2 L2 k l g) := by
  refine loc_of_call EP0_ok (fun hp => ?_)
  have hkl : k ≤ l := hp _ (List.mem_cons_self ..)
  have hkm : k ≤ 100000 := hp _ (List.mem_cons_of_mem _ (List.mem_cons_self ..))
  have h0 : 0 ≤ dWord (dOf k g) 5 0 0 := hp _ (List.mem_cons_of_mem _ (List.mem_cons_of_mem _ (List.mem_cons_self ..)))
  have hc : ¬ 4 < dWord (dOf k g) 5 0 0 := hp _ (List.mem_cons_of_mem _ (List.mem_cons_of_mem _ (List.mem_cons_of_mem _ (List.mem_cons_self ..))))
  have hz : dWord (dOf k g) 5 0 0 ≠ 0 := hp _ (List.mem_cons_of_mem _ (List.mem_cons_of_mem _ (List.mem_cons_of_mem _ (List.mem_cons_of_mem _ (List.mem_cons_self ..)))))
  clear hp
  have hq : decide (dWord (dOf k g) 5 0 0 > 4) = false := decide_eq_false hc
  have hw1 : IntKind.i64.wrap (dWord (dOf k g) 5 0 0) = rbN k g := by unfold rbN; rw [if_neg hc]; exact i64w (by omega) (by omega)
  have hq2 : (dWord (dOf k g) 5 0 0 == 0) = false := beq_eq_false_iff_ne.2 hz

  refine ⟨3000, _, _, _, rly_1 .., (ob_cons ?_ (ob_cons rfl (ob_cons rfl (ob_cons rfl (ob_cons ?_ (ob_cons rfl (ob_cons rfl (ob_cons rfl (ob_cons rfl (ob_cons ?_ (ob_cons ?_ (ob_cons ?_ (ob_cons rfl (ob_cons (Nat.le_refl _) (ob_cons (.inl ⟨rfl, rfl⟩) (ob_cons ?_ (ob_cons ?_ (ob_cons ?_ (ob_cons ?_ ob_nil)))))))))))))))))))⟩
  · exact hw1
  · exact rfl
  · exact rfl
  · exact rfl
  · exact rfl
  · exact hq2
  · exact hq
  · exact hkl
  · omega
theorem rlz_1 (s2 : Int) (L2 : LS) (k l : Nat) (g : Nat → Nat → AV) : callB EP0 3000 40 [AV.ptr 1 0 0, AV.ptr 2 0 0] (rlzH s2 L2 k l g) (rlzR s2 L2 k l g) [] [Hint.b false, Hint.b true] =
 some ([IntKind.i64.wrap (dWord (dOf k g) 5 0 0) = rbN k g,
 (0 : Nat) = 0,
 k = k,
 (none : Option Nat) = none,
 IntKind.i64.wrap (s2 + 1) = (rLoad (mkR k g s2 L2) 5 0 0).st,
 (1 : Int) = 1,
 (5 : Int) = 5,
 (0 : Int) = 0,
 (0 : Int) = 0,
 dWord (dOf k g) 5 0 0 = (rLoad (mkR k g s2 L2) 5 0 0).L.w,
 dWord (dOf k g) 5 0 0 = (rLoad (mkR k g s2 L2) 5 0 0).L.i,
 false = (rLoad (mkR k g s2 L2) 5 0 0).L.d,
 false = false,
 l ≤ l,
 g = g ∧ plainSh wSh = true ∨ ∀ (i : Nat), i < l → rowOb wSh 0 (g i) (g i),
 (dWord (dOf k g) 5 0 0 == 0) = true,
 decide (dWord (dOf k g) 5 0 0 > 4) = false,
 k ≤ l,
 k ≤ 1000000]) := by kernel_rfl
theorem rlz_loc (s2 : Int) (L2 : LS) (k l : Nat) (g : Nat → Nat → AV) : LocOk Try.prog 40 [.ptr 1 0 0, .ptr 2 0 0] (rlzH s2 L2 k l g) (rlzR s2 L2 k l g) := by
  refine loc_of_call EP0_ok (fun hp => ?_)
  have hkl : k ≤ l := hp _ (List.mem_cons_self ..)
  have hkm : k ≤ 100000 := hp _ (List.mem_cons_of_mem _ (List.mem_cons_self ..))
  have h0 : 0 ≤ dWord (dOf k g) 5 0 0 := hp _ (List.mem_cons_of_mem _ (List.mem_cons_of_mem _ (List.mem_cons_self ..)))
  have hc : ¬ 4 < dWord (dOf k g) 5 0 0 := hp _ (List.mem_cons_of_mem _ (List.mem_cons_of_mem _ (List.mem_cons_of_mem _ (List.mem_cons_self ..))))
  have hz : dWord (dOf k g) 5 0 0 = 0 := hp _ (List.mem_cons_of_mem _ (List.mem_cons_of_mem _ (List.mem_cons_of_mem _ (List.mem_cons_of_mem _ (List.mem_cons_self ..)))))
  clear hp
  have hq : decide (dWord (dOf k g) 5 0 0 > 4) = false := decide_eq_false hc
  have hw1 : IntKind.i64.wrap (dWord (dOf k g) 5 0 0) = rbN k g := by unfold rbN; rw [if_neg hc]; exact i64w (by omega) (by omega)
  have hq2 : (dWord (dOf k g) 5 0 0 == 0) = true := beq_iff_eq.2 hz

  refine ⟨3000, _, _, _, rlz_1 .., (ob_cons ?_ (ob_cons rfl (ob_cons rfl (ob_cons rfl (ob_cons ?_ (ob_cons rfl (ob_cons rfl (ob_cons rfl (ob_cons rfl (ob_cons ?_ (ob_cons ?_ (ob_cons ?_ (ob_cons rfl (ob_cons (Nat.le_refl _) (ob_cons (.inl ⟨rfl, rfl⟩) (ob_cons ?_ (ob_cons ?_ (ob_cons ?_ (ob_cons ?_ ob_nil)))))))))))))))))))⟩
  · exact hw1
  · exact rfl
  · exact rfl
  · exact rfl
  · exact rfl
  · exact hq2
  · exact hq
  · exact hkl
  · omega
noncomputable def rlaG (b0 f0 ln ep : Int) (k l : Nat) (s2 c2 k2 a2 f2 w2 i2 : Int) (d2 : Bool) (g : Nat → Nat → AV) : LR := ⟨3, .tup [], [(1, .cells 5 [.int .i64 2, .nils, .int .u64 0, .sym .i64 (rbN k g), .int .i64 0]), (2, .cells 9 (.ss 4 3 0 k none :: lsL (rLoad (mkR k g s2 ⟨c2, k2, a2, f2, w2, i2, d2⟩) 5 0 0).st (rLoad (mkR k g s2 ⟨c2, k2, a2, f2, w2, i2, d2⟩) 5 0 0).L)), (3, .arr 4 wSh false l g)], 0, [1, 2], [ln = 1, ep = 0, f0 = 0, b0 = 0, k ≤ l, k ≤ 100000, 0 ≤ dWord (dOf k g) 5 0 0, rbN k g ≠ 0]⟩
theorem rlaG_loc (b0 f0 ln ep : Int) (k l : Nat) (s2 c2 k2 a2 f2 w2 i2 : Int) (d2 : Bool) (g : Nat → Nat → AV) : LocOk Try.prog 40 [.ptr 1 0 0, .ptr 2 0 0] [(1, .cells 5 [.int .i64 ln, .nils, .int .u64 ep, .int .i64 b0, .int .i64 f0]), (2, .cells 9 (.ss 4 3 0 k none :: .sym .i64 s2 :: [.sym .u8 c2, .sym .u8 k2, .sym .i64 a2, .sym .i64 f2, .sym .u64 w2, .sym .u64 i2, .symb d2])), (3, .arr 4 wSh false l g)] (rlaG b0 f0 ln ep k l s2 c2 k2 a2 f2 w2 i2 d2 g) := by
  intro ρ w hob
  have e1 : ln = 1 := hob _ (List.mem_cons_self ..)
  have e2 : ep = 0 := hob _ (List.mem_cons_of_mem _ (List.mem_cons_self ..))
  have e3 : f0 = 0 := hob _ (List.mem_cons_of_mem _ (List.mem_cons_of_mem _ (List.mem_cons_self ..)))
  have e4 : b0 = 0 := hob _ (List.mem_cons_of_mem _ (List.mem_cons_of_mem _ (List.mem_cons_of_mem _ (List.mem_cons_self ..))))
  have hob := fun p hp => hob p (List.mem_cons_of_mem _ (List.mem_cons_of_mem _ hp))
  have hkl : k ≤ l := hob _ (List.mem_cons_of_mem _ (List.mem_cons_of_mem _ (List.mem_cons_self ..)))
  have hkm : k ≤ 100000 := hob _ (List.mem_cons_of_mem _ (List.mem_cons_of_mem _ (List.mem_cons_of_mem _ (List.mem_cons_self ..))))
  have h0 : 0 ≤ dWord (dOf k g) 5 0 0 := hob _ (List.mem_cons_of_mem _ (List.mem_cons_of_mem _ (List.mem_cons_of_mem _ (List.mem_cons_of_mem _ (List.mem_cons_self ..)))))
  have hn : rbN k g ≠ 0 := hob _ (List.mem_cons_of_mem _ (List.mem_cons_of_mem _ (List.mem_cons_of_mem _ (List.mem_cons_of_mem _ (List.mem_cons_of_mem _ (List.mem_cons_self ..))))))
  clear hob
  subst e1; subst e2; subst e3; subst e4
  by_cases hc : 4 < dWord (dOf k g) 5 0 0
  · exact rlx_loc s2 ⟨c2, k2, a2, f2, w2, i2, d2⟩ k l g ρ w (cj ⟨hkl, hkm, h0, hc, trivial⟩)
  · have hr : rbN k g = dWord (dOf k g) 5 0 0 := if_neg hc
    rw [hr] at hn
    exact rly_loc s2 ⟨c2, k2, a2, f2, w2, i2, d2⟩ k l g ρ w (cj ⟨hkl, hkm, h0, hc, hn, trivial⟩)
noncomputable def rlaSpec : LSpec := fun la lh => match la, lh with
  | [.ptr z1 z2 z3, .ptr z4 z5 z6], [(z7, .cells z8 [.int .i64 ln, .nils, .int .u64 ep, .int .i64 b0, .int .i64 f0]), (z9, .cells z10 (.ss z11 z12 z13 k none :: .sym .i64 s2 :: [.sym .u8 c2, .sym .u8 k2, .sym .i64 a2, .sym .i64 f2, .sym .u64 w2, .sym .u64 i2, .symb d2])), (z14, .arr z15 z16 false l g)] =>
    match Nat.beq z1 1 && (Nat.beq z2 0 && (Nat.beq z3 0 && (Nat.beq z4 2 && (Nat.beq z5 0 && (Nat.beq z6 0 && (Nat.beq z7 1 && (Nat.beq z8 5 && (Nat.beq z9 2 && (Nat.beq z10 9 && (Nat.beq z11 4 && (Nat.beq z12 3 && (Nat.beq z13 0 && (Nat.beq z14 3 && (Nat.beq z15 4 && (shBeq z16 wSh))))))))))))))) with
    | true => some (rlaG b0 f0 ln ep k l s2 c2 k2 a2 f2 w2 i2 d2 g)
    | false => none
  | _, _ => none
theorem rlaSpec_ok (la : List AV) (lh : List (Nat × AO)) (R : LR) (h : rlaSpec la lh = some R) : LocOk Try.prog 40 la lh R := by
  unfold rlaSpec at h
  split at h
  · rename_i z1 z2 z3 z4 z5 z6 z7 z8 ln ep b0 f0 z9 z10 z11 z12 z13 k s2 c2 k2 a2 f2 w2 i2 d2 z14 z15 z16 l g
    split at h
    · rename_i hb
      simp only [Bool.and_eq_true] at hb
      obtain ⟨e1, e2, e3, e4, e5, e6, e7, e8, e9, e10, e11, e12, e13, e14, e15, e16⟩ := hb
      have e1 := Nat.eq_of_beq_eq_true e1; subst e1
      have e2 := Nat.eq_of_beq_eq_true e2; subst e2
      have e3 := Nat.eq_of_beq_eq_true e3; subst e3
      have e4 := Nat.eq_of_beq_eq_true e4; subst e4
      have e5 := Nat.eq_of_beq_eq_true e5; subst e5
      have e6 := Nat.eq_of_beq_eq_true e6; subst e6
      have e7 := Nat.eq_of_beq_eq_true e7; subst e7
      have e8 := Nat.eq_of_beq_eq_true e8; subst e8
      have e9 := Nat.eq_of_beq_eq_true e9; subst e9
      have e10 := Nat.eq_of_beq_eq_true e10; subst e10
      have e11 := Nat.eq_of_beq_eq_true e11; subst e11
      have e12 := Nat.eq_of_beq_eq_true e12; subst e12
      have e13 := Nat.eq_of_beq_eq_true e13; subst e13
      have e14 := Nat.eq_of_beq_eq_true e14; subst e14
      have e15 := Nat.eq_of_beq_eq_true e15; subst e15
      have e16 := shBeq_eq e16; subst e16
      cases h
      exact rlaG_loc b0 f0 ln ep k l s2 c2 k2 a2 f2 w2 i2 d2 g
    · cases h
  · cases h

noncomputable def rlbG (b0 f0 ln ep : Int) (k l : Nat) (s2 c2 k2 a2 f2 w2 i2 : Int) (d2 : Bool) (g : Nat → Nat → AV) : LR := ⟨3, .tup [], [(1, .cells 5 [.int .i64 0, .nils, .int .u64 0, .sym .i64 (rbN k g), .int .i64 0]), (2, .cells 9 (.ss 4 3 0 k none :: lsL (rLoad (mkR k g s2 ⟨c2, k2, a2, f2, w2, i2, d2⟩) 5 0 0).st (rLoad (mkR k g s2 ⟨c2, k2, a2, f2, w2, i2, d2⟩) 5 0 0).L)), (3, .arr 4 wSh false l g)], 0, [1, 2], [ln = 1, ep = 0, f0 = 0, b0 = 0, k ≤ l, k ≤ 100000, 0 ≤ dWord (dOf k g) 5 0 0, rbN k g = 0]⟩
theorem rlbG_loc (b0 f0 ln ep : Int) (k l : Nat) (s2 c2 k2 a2 f2 w2 i2 : Int) (d2 : Bool) (g : Nat → Nat → AV) : LocOk Try.prog 40 [.ptr 1 0 0, .ptr 2 0 0] [(1, .cells 5 [.int .i64 ln, .nils, .int .u64 ep, .int .i64 b0, .int .i64 f0]), (2, .cells 9 (.ss 4 3 0 k none :: .sym .i64 s2 :: [.sym .u8 c2, .sym .u8 k2, .sym .i64 a2, .sym .i64 f2, .sym .u64 w2, .sym .u64 i2, .symb d2])), (3, .arr 4 wSh false l g)] (rlbG b0 f0 ln ep k l s2 c2 k2 a2 f2 w2 i2 d2 g) := by
  intro ρ w hob
  have e1 : ln = 1 := hob _ (List.mem_cons_self ..)
  have e2 : ep = 0 := hob _ (List.mem_cons_of_mem _ (List.mem_cons_self ..))
  have e3 : f0 = 0 := hob _ (List.mem_cons_of_mem _ (List.mem_cons_of_mem _ (List.mem_cons_self ..)))
  have e4 : b0 = 0 := hob _ (List.mem_cons_of_mem _ (List.mem_cons_of_mem _ (List.mem_cons_of_mem _ (List.mem_cons_self ..))))
  have hob := fun p hp => hob p (List.mem_cons_of_mem _ (List.mem_cons_of_mem _ hp))
  have hkl : k ≤ l := hob _ (List.mem_cons_of_mem _ (List.mem_cons_of_mem _ (List.mem_cons_self ..)))
  have hkm : k ≤ 100000 := hob _ (List.mem_cons_of_mem _ (List.mem_cons_of_mem _ (List.mem_cons_of_mem _ (List.mem_cons_self ..))))
  have h0 : 0 ≤ dWord (dOf k g) 5 0 0 := hob _ (List.mem_cons_of_mem _ (List.mem_cons_of_mem _ (List.mem_cons_of_mem _ (List.mem_cons_of_mem _ (List.mem_cons_self ..)))))
  have hn : rbN k g = 0 := hob _ (List.mem_cons_of_mem _ (List.mem_cons_of_mem _ (List.mem_cons_of_mem _ (List.mem_cons_of_mem _ (List.mem_cons_of_mem _ (List.mem_cons_self ..))))))
  clear hob
  subst e1; subst e2; subst e3; subst e4
  by_cases hc : 4 < dWord (dOf k g) 5 0 0
  · exact absurd hn (by unfold rbN; rw [if_pos hc]; decide)
  · have hr : rbN k g = dWord (dOf k g) 5 0 0 := if_neg hc
    rw [hr] at hn
    exact rlz_loc s2 ⟨c2, k2, a2, f2, w2, i2, d2⟩ k l g ρ w (cj ⟨hkl, hkm, h0, hc, hn, trivial⟩)
noncomputable def rlbSpec : LSpec := fun la lh => match la, lh with
  | [.ptr z1 z2 z3, .ptr z4 z5 z6], [(z7, .cells z8 [.int .i64 ln, .nils, .int .u64 ep, .int .i64 b0, .int .i64 f0]), (z9, .cells z10 (.ss z11 z12 z13 k none :: .sym .i64 s2 :: [.sym .u8 c2, .sym .u8 k2, .sym .i64 a2, .sym .i64 f2, .sym .u64 w2, .sym .u64 i2, .symb d2])), (z14, .arr z15 z16 false l g)] =>
    match Nat.beq z1 1 && (Nat.beq z2 0 && (Nat.beq z3 0 && (Nat.beq z4 2 && (Nat.beq z5 0 && (Nat.beq z6 0 && (Nat.beq z7 1 && (Nat.beq z8 5 && (Nat.beq z9 2 && (Nat.beq z10 9 && (Nat.beq z11 4 && (Nat.beq z12 3 && (Nat.beq z13 0 && (Nat.beq z14 3 && (Nat.beq z15 4 && (shBeq z16 wSh))))))))))))))) with
    | true => some (rlbG b0 f0 ln ep k l s2 c2 k2 a2 f2 w2 i2 d2 g)
    | false => none
  | _, _ => none
theorem rlbSpec_ok (la : List AV) (lh : List (Nat × AO)) (R : LR) (h : rlbSpec la lh = some R) : LocOk Try.prog 40 la lh R := by
  unfold rlbSpec at h
  split at h
  · rename_i z1 z2 z3 z4 z5 z6 z7 z8 ln ep b0 f0 z9 z10 z11 z12 z13 k s2 c2 k2 a2 f2 w2 i2 d2 z14 z15 z16 l g
    split at h
    · rename_i hb
      simp only [Bool.and_eq_true] at hb
      obtain ⟨e1, e2, e3, e4, e5, e6, e7, e8, e9, e10, e11, e12, e13, e14, e15, e16⟩ := hb
      have e1 := Nat.eq_of_beq_eq_true e1; subst e1
      have e2 := Nat.eq_of_beq_eq_true e2; subst e2
      have e3 := Nat.eq_of_beq_eq_true e3; subst e3
      have e4 := Nat.eq_of_beq_eq_true e4; subst e4
      have e5 := Nat.eq_of_beq_eq_true e5; subst e5
      have e6 := Nat.eq_of_beq_eq_true e6; subst e6
      have e7 := Nat.eq_of_beq_eq_true e7; subst e7
      have e8 := Nat.eq_of_beq_eq_true e8; subst e8
      have e9 := Nat.eq_of_beq_eq_true e9; subst e9
      have e10 := Nat.eq_of_beq_eq_true e10; subst e10
      have e11 := Nat.eq_of_beq_eq_true e11; subst e11
      have e12 := Nat.eq_of_beq_eq_true e12; subst e12
      have e13 := Nat.eq_of_beq_eq_true e13; subst e13
      have e14 := Nat.eq_of_beq_eq_true e14; subst e14
      have e15 := Nat.eq_of_beq_eq_true e15; subst e15
      have e16 := shBeq_eq e16; subst e16
      cases h
      exact rlbG_loc b0 f0 ln ep k l s2 c2 k2 a2 f2 w2 i2 d2 g
    · cases h
  · cases h

/-- One of two contracts, by a hint; closed values as they are. -/
def altRW (s t : LSpec) : SP := fun args h => match h.hints with
  | .b c :: r => match c with
    | true => applyLoc s args { h with hints := r }
    | false => applyLoc t args { h with hints := r }
  | _ => none
theorem altRW_ok {P : Program} {f : FuncId} {s t : LSpec} (hs : SpecOk P f s) (ht : SpecOk P f t) : SPOk P f (altRW s t) := by
  intro args h v h' e
  unfold altRW at e
  split at e
  · rename_i c r hr
    split at e
    · have o := applyLoc_ok hs e
      exact ⟨⟨o.mono.ob, o.mono.nxt, o.mono.hi, o.mono.wr⟩, fun ho ρ w hr hf hg xs hx => (o.wp ho ρ w hr hf hg xs hx).mono fun e w' ⟨x, ρ', a, b, c⟩ => ⟨x, ρ', a, b, ⟨c.le, c.new, c.rep, c.fr, c.own⟩⟩⟩
    · have o := applyLoc_ok ht e
      exact ⟨⟨o.mono.ob, o.mono.nxt, o.mono.hi, o.mono.wr⟩, fun ho ρ w hr hf hg xs hx => (o.wp ho ρ w hr hf hg xs hx).mono fun e w' ⟨x, ρ', a, b, c⟩ => ⟨x, ρ', a, b, ⟨c.le, c.new, c.rep, c.fr, c.own⟩⟩⟩
  · cases e
/-- A step of the document's Taker, by a hint: over or not. -/
noncomputable def rtSP : SP := orSP (altRW rtoSpec rtcSpec) (altRW rlbSpec rlaSpec)
theorem rtSP_ok : SPOk Try.prog 40 rtSP := orSP_ok (altRW_ok rtoSpec_ok rtcSpec_ok) (altRW_ok rlbSpec_ok rlaSpec_ok)

end Go.Proofs.Ytmlfmmnnbdlabaa
