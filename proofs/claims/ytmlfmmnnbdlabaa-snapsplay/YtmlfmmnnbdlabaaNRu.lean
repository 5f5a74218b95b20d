/-
  Chapter 14: the document's Taker at a word: its contract.
-/
import Derived.Test.YtmlfmmnnbdlabaaNRt
import Derived.Test.YtmlfmmnnbdlabaaEvUse
set_option linter.unusedSimpArgs false
set_option linter.unusedVariables false
namespace Go.Proofs.Ytmlfmmnnbdlabaa
open Go.Ev
noncomputable def rtcR (b fl fl2 s2 : Int) (L2 : LS) (n n2 k l : Nat) (g F F2 : Nat → Nat → AV) : LR := ⟨4, .tup [], [(1, .cells 5 [.int .i64 2, .ss 10 5 0 n2 none, .int .u64 0, .sym .i64 b, .sym .i64 fl2]), (5, .arr 10 tSh false n2 F2), (3, .cells 9 (.ss 4 4 0 k none :: lsL (rLoad (mkR k g s2 L2) 8 (Int.ofNat (n2 - 1)) fl).st (rLoad (mkR k g s2 L2) 8 (Int.ofNat (n2 - 1)) fl).L)), (4, .arr 4 wSh false l g)], 1, [1, 2, 3], [RtPre b fl fl2 n n2 k l g F F2, ¬ (fl2 = 0 ∧ Int.ofNat n2 = 4 * b)]⟩
theorem rtc_loc (b fl fl2 s2 : Int) (L2 : LS) (n n2 k l : Nat) (g F F2 : Nat → Nat → AV) : LocOk Try.prog 40 [.ptr 1 0 0, .ptr 3 0 0] [(1, .cells 5 [.int .i64 2, .ss 10 2 0 n none, .int .u64 0, .sym .i64 b, .sym .i64 fl]), (2, .arr 10 tSh false n F), (3, .cells 9 (.ss 4 4 0 k none :: lsL s2 L2)), (4, .arr 4 wSh false l g)] (rtcR b fl fl2 s2 L2 n n2 k l g F F2) := by
  intro ρ w hob
  have hpp : RtPre b fl fl2 n n2 k l g F F2 := hob _ (List.mem_cons_self ..)
  have hov : ¬ (fl2 = 0 ∧ Int.ofNat n2 = 4 * b) := hob _ (List.mem_cons_of_mem _ (List.mem_cons_self ..))
  clear hob
  have hr := hpp.r
  rcases (show fl = 0 ∨ fl = 1 ∨ fl = 2 ∨ fl = 3 ∨ fl = 4 ∨ fl = 5 ∨ fl = 6 ∨ fl = 7 ∨ fl = 8 ∨ fl = 9 by omega) with rfl | rfl | rfl | rfl | rfl | rfl | rfl | rfl | rfl | rfl
  ·
    have e := hpp.n0 rfl
    have hO2 : avInt (F2 (n2 - 1) 0) = dWord (dOf k g) 8 (Int.ofNat n) 0 := by
      rw [hpp.ff, e]; unfold tkF; rw [if_pos (show n + 1 - 1 = (Int.ofNat (n + 1 - 1)).toNat from rfl), if_pos (show 0 = (0 : Int).toNat from rfl)]; rfl
    by_cases hO : dWord (dOf k g) 8 (Int.ofNat n) 0 = 0
    · have hl : fl2 = 0 := by rw [hpp.fl2, hO2]; exact if_pos (.inl hO)
      exact rt0c_loc b fl2 s2 L2 n n2 k l g F F2 ρ w (cj ⟨hpp, hO, fun h => hov ⟨hl, h⟩, trivial⟩)
    · exact rt0n_loc b fl2 s2 L2 n n2 k l g F F2 ρ w (cj ⟨hpp, hO, trivial⟩)
  · exact rt1_loc b fl2 s2 L2 n n2 k l g F F2 ρ w (cj ⟨hpp, trivial⟩)
  · exact rt2_loc b fl2 s2 L2 n n2 k l g F F2 ρ w (cj ⟨hpp, trivial⟩)
  · exact rt3_loc b fl2 s2 L2 n n2 k l g F F2 ρ w (cj ⟨hpp, trivial⟩)
  · exact rt4_loc b fl2 s2 L2 n n2 k l g F F2 ρ w (cj ⟨hpp, trivial⟩)
  · exact rt5_loc b fl2 s2 L2 n n2 k l g F F2 ρ w (cj ⟨hpp, trivial⟩)
  · exact rt6_loc b fl2 s2 L2 n n2 k l g F F2 ρ w (cj ⟨hpp, trivial⟩)
  · exact rt7_loc b fl2 s2 L2 n n2 k l g F F2 ρ w (cj ⟨hpp, trivial⟩)
  · exact rt8_loc b fl2 s2 L2 n n2 k l g F F2 ρ w (cj ⟨hpp, trivial⟩)
  · have hl : fl2 = 0 := by rw [hpp.fl2]; exact if_pos (.inr rfl)
    exact rt9c_loc b fl2 s2 L2 n n2 k l g F F2 ρ w (cj ⟨hpp, fun h => hov ⟨hl, h⟩, trivial⟩)
noncomputable def rtoR (b fl fl2 s2 : Int) (L2 : LS) (n n2 k l : Nat) (g F F2 : Nat → Nat → AV) : LR := ⟨4, .tup [], [(1, .cells 5 [.int .i64 0, .ss 10 5 0 n2 none, .int .u64 0, .sym .i64 b, .sym .i64 fl2]), (5, .arr 10 tSh false n2 F2), (3, .cells 9 (.ss 4 4 0 k none :: lsL (rLoad (mkR k g s2 L2) 8 (Int.ofNat (n2 - 1)) fl).st (rLoad (mkR k g s2 L2) 8 (Int.ofNat (n2 - 1)) fl).L)), (4, .arr 4 wSh false l g)], 1, [1, 2, 3], [RtPre b fl fl2 n n2 k l g F F2, fl2 = 0 ∧ Int.ofNat n2 = 4 * b]⟩
theorem rto_loc (b fl fl2 s2 : Int) (L2 : LS) (n n2 k l : Nat) (g F F2 : Nat → Nat → AV) : LocOk Try.prog 40 [.ptr 1 0 0, .ptr 3 0 0] [(1, .cells 5 [.int .i64 2, .ss 10 2 0 n none, .int .u64 0, .sym .i64 b, .sym .i64 fl]), (2, .arr 10 tSh false n F), (3, .cells 9 (.ss 4 4 0 k none :: lsL s2 L2)), (4, .arr 4 wSh false l g)] (rtoR b fl fl2 s2 L2 n n2 k l g F F2) := by
  intro ρ w hob
  have hpp : RtPre b fl fl2 n n2 k l g F F2 := hob _ (List.mem_cons_self ..)
  have hov : fl2 = 0 ∧ Int.ofNat n2 = 4 * b := hob _ (List.mem_cons_of_mem _ (List.mem_cons_self ..))
  clear hob
  have hr := hpp.r
  rcases (show fl = 0 ∨ fl = 1 ∨ fl = 2 ∨ fl = 3 ∨ fl = 4 ∨ fl = 5 ∨ fl = 6 ∨ fl = 7 ∨ fl = 8 ∨ fl = 9 by omega) with rfl | rfl | rfl | rfl | rfl | rfl | rfl | rfl | rfl | rfl
  ·
    have e := hpp.n0 rfl
    have hO2 : avInt (F2 (n2 - 1) 0) = dWord (dOf k g) 8 (Int.ofNat n) 0 := by
      rw [hpp.ff, e]; unfold tkF; rw [if_pos (show n + 1 - 1 = (Int.ofNat (n + 1 - 1)).toNat from rfl), if_pos (show 0 = (0 : Int).toNat from rfl)]; rfl
    have hO : dWord (dOf k g) 8 (Int.ofNat n) 0 = 0 := Classical.byContradiction (fun c => by
      have hl : fl2 = 0 + 1 := by rw [hpp.fl2, hO2]; exact if_neg (fun q => q.elim c (by decide))
      omega)
    exact rt0o_loc b fl2 s2 L2 n n2 k l g F F2 ρ w (cj ⟨hpp, hO, hov.2, trivial⟩)
  · exact absurd (hov.1.symm.trans (hpp.fl2.trans (if_neg (fun q => q.elim (by rw [(hpp.n1 (by decide)).1]; exact rt_own hpp (by decide)) (by decide))))) (by decide)
  · exact absurd (hov.1.symm.trans (hpp.fl2.trans (if_neg (fun q => q.elim (by rw [(hpp.n1 (by decide)).1]; exact rt_own hpp (by decide)) (by decide))))) (by decide)
  · exact absurd (hov.1.symm.trans (hpp.fl2.trans (if_neg (fun q => q.elim (by rw [(hpp.n1 (by decide)).1]; exact rt_own hpp (by decide)) (by decide))))) (by decide)
  · exact absurd (hov.1.symm.trans (hpp.fl2.trans (if_neg (fun q => q.elim (by rw [(hpp.n1 (by decide)).1]; exact rt_own hpp (by decide)) (by decide))))) (by decide)
  · exact absurd (hov.1.symm.trans (hpp.fl2.trans (if_neg (fun q => q.elim (by rw [(hpp.n1 (by decide)).1]; exact rt_own hpp (by decide)) (by decide))))) (by decide)
  · exact absurd (hov.1.symm.trans (hpp.fl2.trans (if_neg (fun q => q.elim (by rw [(hpp.n1 (by decide)).1]; exact rt_own hpp (by decide)) (by decide))))) (by decide)
  · exact absurd (hov.1.symm.trans (hpp.fl2.trans (if_neg (fun q => q.elim (by rw [(hpp.n1 (by decide)).1]; exact rt_own hpp (by decide)) (by decide))))) (by decide)
  · exact absurd (hov.1.symm.trans (hpp.fl2.trans (if_neg (fun q => q.elim (by rw [(hpp.n1 (by decide)).1]; exact rt_own hpp (by decide)) (by decide))))) (by decide)
  · exact rt9o_loc b fl2 s2 L2 n n2 k l g F F2 ρ w (cj ⟨hpp, hov.2, trivial⟩)
noncomputable def rtcG (b fl ln ep : Int) (n nn k l : Nat) (s2 c2 k2 a2 f2 w2 i2 : Int) (d2 : Bool) (g F : Nat → Nat → AV) : LR := ⟨4, .tup [], (rtcR b fl (rtL n fl k g F) s2 ⟨c2, k2, a2, f2, w2, i2, d2⟩ n (rtN fl n) k l g F (rtF n fl k g F)).heap, 1, [1, 2, 3], [ln = 2, ep = 0, nn = n, RtPre b fl (rtL n fl k g F) n (rtN fl n) k l g F (rtF n fl k g F), ¬ (rtL n fl k g F = 0 ∧ Int.ofNat (rtN fl n) = 4 * b)]⟩
theorem rtcG_loc (b fl ln ep : Int) (n nn k l : Nat) (s2 c2 k2 a2 f2 w2 i2 : Int) (d2 : Bool) (g F : Nat → Nat → AV) : LocOk Try.prog 40 [.ptr 1 0 0, .ptr 3 0 0] [(1, .cells 5 [.int .i64 ln, .ss 10 2 0 n none, .int .u64 ep, .sym .i64 b, .sym .i64 fl]), (2, .arr 10 tSh false nn F), (3, .cells 9 (.ss 4 4 0 k none :: .sym .i64 s2 :: [.sym .u8 c2, .sym .u8 k2, .sym .i64 a2, .sym .i64 f2, .sym .u64 w2, .sym .u64 i2, .symb d2])), (4, .arr 4 wSh false l g)] (rtcG b fl ln ep n nn k l s2 c2 k2 a2 f2 w2 i2 d2 g F) := by
  intro ρ w hob
  have e1 : ln = 2 := hob _ (List.mem_cons_self ..)
  have e2 : ep = 0 := hob _ (List.mem_cons_of_mem _ (List.mem_cons_self ..))
  have e3 : nn = n := hob _ (List.mem_cons_of_mem _ (List.mem_cons_of_mem _ (List.mem_cons_self ..)))
  subst e1; subst e2; subst e3
  exact rtc_loc b fl (rtL nn fl k g F) s2 ⟨c2, k2, a2, f2, w2, i2, d2⟩ nn (rtN fl nn) k l g F (rtF nn fl k g F) ρ w (fun p hp => hob p (List.mem_cons_of_mem _ (List.mem_cons_of_mem _ (List.mem_cons_of_mem _ hp))))
noncomputable def rtcSpec : LSpec := fun la lh => match la, lh with
  | [.ptr z1 z2 z3, .ptr z4 z5 z6], [(z7, .cells z8 [.int .i64 ln, .ss z9 z10 z11 n none, .int .u64 ep, .sym .i64 b, .sym .i64 fl]), (z12, .arr z13 z14 false nn F), (z15, .cells z16 (.ss z17 z18 z19 k none :: .sym .i64 s2 :: [.sym .u8 c2, .sym .u8 k2, .sym .i64 a2, .sym .i64 f2, .sym .u64 w2, .sym .u64 i2, .symb d2])), (z20, .arr z21 z22 false l g)] =>
    match Nat.beq z1 1 && (Nat.beq z2 0 && (Nat.beq z3 0 && (Nat.beq z4 3 && (Nat.beq z5 0 && (Nat.beq z6 0 && (Nat.beq z7 1 && (Nat.beq z8 5 && (Nat.beq z9 10 && (Nat.beq z10 2 && (Nat.beq z11 0 && (Nat.beq z12 2 && (Nat.beq z13 10 && (shBeq z14 tSh && (Nat.beq z15 3 && (Nat.beq z16 9 && (Nat.beq z17 4 && (Nat.beq z18 4 && (Nat.beq z19 0 && (Nat.beq z20 4 && (Nat.beq z21 4 && (shBeq z22 wSh))))))))))))))))))))) with
    | true => some (rtcG b fl ln ep n nn k l s2 c2 k2 a2 f2 w2 i2 d2 g F)
    | false => none
  | _, _ => none
theorem rtcSpec_ok (la : List AV) (lh : List (Nat × AO)) (R : LR) (h : rtcSpec la lh = some R) : LocOk Try.prog 40 la lh R := by
  unfold rtcSpec at h
  split at h
  · rename_i z1 z2 z3 z4 z5 z6 z7 z8 ln z9 z10 z11 n ep b fl z12 z13 z14 nn F z15 z16 z17 z18 z19 k s2 c2 k2 a2 f2 w2 i2 d2 z20 z21 z22 l g
    split at h
    · rename_i hb
      simp only [Bool.and_eq_true] at hb
      obtain ⟨e1, e2, e3, e4, e5, e6, e7, e8, e9, e10, e11, e12, e13, e14, e15, e16, e17, e18, e19, e20, e21, e22⟩ := hb
      have e1 := Nat.eq_of_beq_eq_true e1; subst e1
      have e2 := Nat.eq_of_beq_eq_true e2; subst e2
      have e3 := Nat.eq_of_beq_eq_true e3; subst e3
      have e4 := Nat.eq_of_beq_eq_true e4; subst e4
      have e5 := Nat.eq_of_beq_eq_true e5; subst e5
      have e6 := Nat.eq_of_beq_eq_true e6; subst e6
      have e7 := Nat.eq_of_beq_eq_true e7; subst e7
      have e8 := Nat.eq_of_beq_eq_true e8; subst e8
      have e9 := Nat.eq_of_beq_eq_true e9; subst e9
      have e10 := Nat.eq_of_beq_eq_true e10; subst e10
      have e11 := Nat.eq_of_beq_eq_true e11; subst e11
      have e12 := Nat.eq_of_beq_eq_true e12; subst e12
      have e13 := Nat.eq_of_beq_eq_true e13; subst e13
      have e14 := shBeq_eq e14; subst e14
      have e15 := Nat.eq_of_beq_eq_true e15; subst e15
      have e16 := Nat.eq_of_beq_eq_true e16; subst e16
      have e17 := Nat.eq_of_beq_eq_true e17; subst e17
      have e18 := Nat.eq_of_beq_eq_true e18; subst e18
      have e19 := Nat.eq_of_beq_eq_true e19; subst e19
      have e20 := Nat.eq_of_beq_eq_true e20; subst e20
      have e21 := Nat.eq_of_beq_eq_true e21; subst e21
      have e22 := shBeq_eq e22; subst e22
      cases h
      exact rtcG_loc b fl ln ep n nn k l s2 c2 k2 a2 f2 w2 i2 d2 g F
    · cases h
  · cases h
noncomputable def rtoG (b fl ln ep : Int) (n nn k l : Nat) (s2 c2 k2 a2 f2 w2 i2 : Int) (d2 : Bool) (g F : Nat → Nat → AV) : LR := ⟨4, .tup [], (rtoR b fl (rtL n fl k g F) s2 ⟨c2, k2, a2, f2, w2, i2, d2⟩ n (rtN fl n) k l g F (rtF n fl k g F)).heap, 1, [1, 2, 3], [ln = 2, ep = 0, nn = n, RtPre b fl (rtL n fl k g F) n (rtN fl n) k l g F (rtF n fl k g F), rtL n fl k g F = 0 ∧ Int.ofNat (rtN fl n) = 4 * b]⟩
theorem rtoG_loc (b fl ln ep : Int) (n nn k l : Nat) (s2 c2 k2 a2 f2 w2 i2 : Int) (d2 : Bool) (g F : Nat → Nat → AV) : LocOk Try.prog 40 [.ptr 1 0 0, .ptr 3 0 0] [(1, .cells 5 [.int .i64 ln, .ss 10 2 0 n none, .int .u64 ep, .sym .i64 b, .sym .i64 fl]), (2, .arr 10 tSh false nn F), (3, .cells 9 (.ss 4 4 0 k none :: .sym .i64 s2 :: [.sym .u8 c2, .sym .u8 k2, .sym .i64 a2, .sym .i64 f2, .sym .u64 w2, .sym .u64 i2, .symb d2])), (4, .arr 4 wSh false l g)] (rtoG b fl ln ep n nn k l s2 c2 k2 a2 f2 w2 i2 d2 g F) := by
  intro ρ w hob
  have e1 : ln = 2 := hob _ (List.mem_cons_self ..)
  have e2 : ep = 0 := hob _ (List.mem_cons_of_mem _ (List.mem_cons_self ..))
  have e3 : nn = n := hob _ (List.mem_cons_of_mem _ (List.mem_cons_of_mem _ (List.mem_cons_self ..)))
  subst e1; subst e2; subst e3
  exact rto_loc b fl (rtL nn fl k g F) s2 ⟨c2, k2, a2, f2, w2, i2, d2⟩ nn (rtN fl nn) k l g F (rtF nn fl k g F) ρ w (fun p hp => hob p (List.mem_cons_of_mem _ (List.mem_cons_of_mem _ (List.mem_cons_of_mem _ hp))))
noncomputable def rtoSpec : LSpec := fun la lh => match la, lh with
  | [.ptr z1 z2 z3, .ptr z4 z5 z6], [(z7, .cells z8 [.int .i64 ln, .ss z9 z10 z11 n none, .int .u64 ep, .sym .i64 b, .sym .i64 fl]), (z12, .arr z13 z14 false nn F), (z15, .cells z16 (.ss z17 z18 z19 k none :: .sym .i64 s2 :: [.sym .u8 c2, .sym .u8 k2, .sym .i64 a2, .sym .i64 f2, .sym .u64 w2, .sym .u64 i2, .symb d2])), (z20, .arr z21 z22 false l g)] =>
    match Nat.beq z1 1 && (Nat.beq z2 0 && (Nat.beq z3 0 && (Nat.beq z4 3 && (Nat.beq z5 0 && (Nat.beq z6 0 && (Nat.beq z7 1 && (Nat.beq z8 5 && (Nat.beq z9 10 && (Nat.beq z10 2 && (Nat.beq z11 0 && (Nat.beq z12 2 && (Nat.beq z13 10 && (shBeq z14 tSh && (Nat.beq z15 3 && (Nat.beq z16 9 && (Nat.beq z17 4 && (Nat.beq z18 4 && (Nat.beq z19 0 && (Nat.beq z20 4 && (Nat.beq z21 4 && (shBeq z22 wSh))))))))))))))))))))) with
    | true => some (rtoG b fl ln ep n nn k l s2 c2 k2 a2 f2 w2 i2 d2 g F)
    | false => none
  | _, _ => none
theorem rtoSpec_ok (la : List AV) (lh : List (Nat × AO)) (R : LR) (h : rtoSpec la lh = some R) : LocOk Try.prog 40 la lh R := by
  unfold rtoSpec at h
  split at h
  · rename_i z1 z2 z3 z4 z5 z6 z7 z8 ln z9 z10 z11 n ep b fl z12 z13 z14 nn F z15 z16 z17 z18 z19 k s2 c2 k2 a2 f2 w2 i2 d2 z20 z21 z22 l g
    split at h
    · rename_i hb
      simp only [Bool.and_eq_true] at hb
      obtain ⟨e1, e2, e3, e4, e5, e6, e7, e8, e9, e10, e11, e12, e13, e14, e15, e16, e17, e18, e19, e20, e21, e22⟩ := hb
      have e1 := Nat.eq_of_beq_eq_true e1; subst e1
      have e2 := Nat.eq_of_beq_eq_true e2; subst e2
      have e3 := Nat.eq_of_beq_eq_true e3; subst e3
      have e4 := Nat.eq_of_beq_eq_true e4; subst e4
      have e5 := Nat.eq_of_beq_eq_true e5; subst e5
      have e6 := Nat.eq_of_beq_eq_true e6; subst e6
      have e7 := Nat.eq_of_beq_eq_true e7; subst e7
      have e8 := Nat.eq_of_beq_eq_true e8; subst e8
      have e9 := Nat.eq_of_beq_eq_true e9; subst e9
      have e10 := Nat.eq_of_beq_eq_true e10; subst e10
      have e11 := Nat.eq_of_beq_eq_true e11; subst e11
      have e12 := Nat.eq_of_beq_eq_true e12; subst e12
      have e13 := Nat.eq_of_beq_eq_true e13; subst e13
      have e14 := shBeq_eq e14; subst e14
      have e15 := Nat.eq_of_beq_eq_true e15; subst e15
      have e16 := Nat.eq_of_beq_eq_true e16; subst e16
      have e17 := Nat.eq_of_beq_eq_true e17; subst e17
      have e18 := Nat.eq_of_beq_eq_true e18; subst e18
      have e19 := Nat.eq_of_beq_eq_true e19; subst e19
      have e20 := Nat.eq_of_beq_eq_true e20; subst e20
      have e21 := Nat.eq_of_beq_eq_true e21; subst e21
      have e22 := shBeq_eq e22; subst e22
      cases h
      exact rtoG_loc b fl ln ep n nn k l s2 c2 k2 a2 f2 w2 i2 d2 g F
    · cases h
  · cases h
end Go.Proofs.Ytmlfmmnnbdlabaa
