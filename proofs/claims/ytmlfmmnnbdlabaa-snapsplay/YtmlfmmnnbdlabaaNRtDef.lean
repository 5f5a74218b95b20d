/-
  Chapter 14: the document's Taker at a word: ways: definitions.
-/
import Derived.Test.YtmlfmmnnbdlabaaNTs
import Derived.Test.YtmlfmmnnbdlabaaNBeg
import Derived.Test.YtmlfmmnnbdlabaaEvWords
set_option linter.unusedSimpArgs false
set_option linter.unusedVariables false
namespace Go.Proofs.Ytmlfmmnnbdlabaa
open Go.Ev
/-- The document's Taker at a word: what is asked. -/
structure RtPre (b fl fl2 : Int) (n n2 k l : Nat) (g F F2 : Nat → Nat → AV) : Prop where
  kl : k ≤ l
  km : k ≤ 100000
  nm : n ≤ 1000
  r : 0 ≤ fl ∧ fl ≤ 9
  bb : 0 ≤ b ∧ b ≤ 4
  n0 : fl = 0 → n2 = n + 1
  n1 : fl ≠ 0 → n2 = n ∧ 0 < n
  ff : F2 = tkF F (Int.ofNat (n2 - 1)) fl (dWord (dOf k g) 8 (Int.ofNat (n2 - 1)) fl)
  sy : ∀ i j, F i j = .sym .u64 (avInt (F i j))
  z : fl = 0 → ∀ j, 1 ≤ j → j < 10 → F n j = .sym .u64 0
  own : fl ≠ 0 → avInt (F (n - 1) 0) ≠ 0
  fl2 : fl2 = if avInt (F2 (n2 - 1) 0) = 0 ∨ fl = 9 then 0 else fl + 1
theorem rt_wrap {n : Nat} (h : 0 < n) (h2 : n ≤ 100000) : IntKind.i64.wrap (Int.ofNat n - 1) = Int.ofNat (n - 1) := by
  rw [i64w (by simp; omega) (by simp; omega)]; simp; omega
theorem rt_upd {b fl fl2 : Int} {n n2 k l : Nat} {g F F2 : Nat → Nat → AV} (h : RtPre b fl fl2 n n2 k l g F F2) (h0 : fl ≠ 0) : F2 = upd F (0 + (IntKind.i64.wrap (Int.ofNat n - 1)).toNat) fl.toNat [AV.sym .u64 (dWord (dOf k g) 8 (IntKind.i64.wrap (Int.ofNat n - 1)) fl)] := by
  have := h.nm
  obtain ⟨e, hn⟩ := h.n1 h0
  rw [rt_wrap hn (by omega), h.ff, e]
  exact tkF_upd ..
theorem rt_rows {b fl fl2 : Int} {n n2 k l : Nat} {g F F2 Z : Nat → Nat → AV} (h : RtPre b fl fl2 n n2 k l g F F2) (h0 : fl = 0) (hZ : Z = fun i j => if i < n then F (0 + i) j else rowsOf 10 (List.replicate 10 (AV.int .u64 0)) (i - n) j) : ∀ i, i < n + 1 → rowOb tSh 0 (upd Z (0 + (IntKind.i64.wrap (Int.ofNat (n + 1) - 1)).toNat) 0 [AV.sym .u64 (dWord (dOf k g) 8 (IntKind.i64.wrap (Int.ofNat (n + 1) - 1)) 0)] i) (F2 i) := by
  have hm := h.nm
  intro i hi
  subst hZ
  rw [rt_wrap (by omega) (by omega), h.ff, h.n0 h0, Nat.add_sub_cancel, Nat.zero_add]
  subst h0
  have e : ∀ j, j < 10 → tkF F (Int.ofNat n) 0 (dWord (dOf k g) 8 (Int.ofNat n) 0) i j = .sym .u64 (avInt (upd (fun i j => if i < n then F (0 + i) j else rowsOf 10 (List.replicate 10 (AV.int .u64 0)) (i - n) j) (Int.ofNat n).toNat 0 [AV.sym .u64 (dWord (dOf k g) 8 (Int.ofNat n) 0)] i j)) := fun j hj => by
    have en : (Int.ofNat n).toNat = n := rfl
    unfold tkF upd
    rw [en]
    by_cases c : i = n
    · subst c
      rw [if_pos rfl, if_pos rfl]
      by_cases cj : j = 0
      · subst cj; rfl
      · rw [if_neg (show ¬ j = (0 : Int).toNat from cj), h.z rfl j (by omega) hj, if_pos (Nat.zero_le _)]
        have : j = 1 ∨ j = 2 ∨ j = 3 ∨ j = 4 ∨ j = 5 ∨ j = 6 ∨ j = 7 ∨ j = 8 ∨ j = 9 := by omega
        simp only [Nat.lt_irrefl, if_false, Nat.sub_self, Nat.sub_zero]
        rcases this with e | e | e | e | e | e | e | e | e <;> subst e <;> rfl
    · rw [if_neg c, if_neg c]
      show F i j = .sym .u64 (avInt (if i < n then F (0 + i) j else _))
      rw [if_pos (by omega), Nat.zero_add]
      exact h.sy i j
  exact ⟨e 0 (by decide), e 1 (by decide), e 2 (by decide), e 3 (by decide), e 4 (by decide), e 5 (by decide), e 6 (by decide), e 7 (by decide), e 8 (by decide), e 9 (by decide), trivial⟩
theorem rt_own {b fl fl2 : Int} {n n2 k l : Nat} {g F F2 : Nat → Nat → AV} (h : RtPre b fl fl2 n n2 k l g F F2) (h0 : fl ≠ 0) : avInt (F2 (n - 1) 0) ≠ 0 := by
  obtain ⟨e, hn⟩ := h.n1 h0
  have hr := h.r
  rw [h.ff, e]
  unfold tkF
  rw [if_pos (show n - 1 = (Int.ofNat (n - 1)).toNat from rfl), if_neg (by omega)]
  exact h.own h0
theorem upd_same (f : Nat → Nat → AV) (i : Nat) (v : AV) : upd f i 0 [v] i 0 = v := by
  unfold upd; rw [if_pos rfl, if_pos (Nat.zero_le _)]; rfl
def rtN (fl : Int) (n : Nat) : Nat := if fl = 0 then n + 1 else n
noncomputable def rtF (n : Nat) (fl : Int) (k : Nat) (g F : Nat → Nat → AV) : Nat → Nat → AV := tkF F (Int.ofNat (rtN fl n - 1)) fl (dWord (dOf k g) 8 (Int.ofNat (rtN fl n - 1)) fl)
noncomputable def rtL (n : Nat) (fl : Int) (k : Nat) (g F : Nat → Nat → AV) : Int := if avInt (rtF n fl k g F (rtN fl n - 1) 0) = 0 ∨ fl = 9 then 0 else fl + 1
def rbN (k : Nat) (g : Nat → Nat → AV) : Int := if 4 < dWord (dOf k g) 5 0 0 then 4 else dWord (dOf k g) 5 0 0

noncomputable def rt1H (b fl2 s2 : Int) (L2 : LS) (n n2 k l : Nat) (g F F2 : Nat → Nat → AV) : List (Nat × AO) := [(1, .cells 5 [.int .i64 2, .ss 10 2 0 n none, .int .u64 0, .sym .i64 b, .sym .i64 1]), (2, .arr 10 tSh false n F), (3, .cells 9 (.ss 4 4 0 k none :: lsL s2 L2)), (4, .arr 4 wSh false l g)]
noncomputable def rt1R (b fl2 s2 : Int) (L2 : LS) (n n2 k l : Nat) (g F F2 : Nat → Nat → AV) : LR := ⟨4, .tup [], [(1, .cells 5 [.int .i64 2, .ss 10 5 0 n2 none, .int .u64 0, .sym .i64 b, .sym .i64 fl2]), (5, .arr 10 tSh false n2 F2), (3, .cells 9 (.ss 4 4 0 k none :: lsL (rLoad (mkR k g s2 L2) 8 (Int.ofNat (n2 - 1)) 1).st (rLoad (mkR k g s2 L2) 8 (Int.ofNat (n2 - 1)) 1).L)), (4, .arr 4 wSh false l g)], 1, [1, 2, 3], [RtPre b 1 fl2 n n2 k l g F F2]⟩
noncomputable def rt2H (b fl2 s2 : Int) (L2 : LS) (n n2 k l : Nat) (g F F2 : Nat → Nat → AV) : List (Nat × AO) := [(1, .cells 5 [.int .i64 2, .ss 10 2 0 n none, .int .u64 0, .sym .i64 b, .sym .i64 2]), (2, .arr 10 tSh false n F), (3, .cells 9 (.ss 4 4 0 k none :: lsL s2 L2)), (4, .arr 4 wSh false l g)]
noncomputable def rt2R (b fl2 s2 : Int) (L2 : LS) (n n2 k l : Nat) (g F F2 : Nat → Nat → AV) : LR := ⟨4, .tup [], [(1, .cells 5 [.int .i64 2, .ss 10 5 0 n2 none, .int .u64 0, .sym .i64 b, .sym .i64 fl2]), (5, .arr 10 tSh false n2 F2), (3, .cells 9 (.ss 4 4 0 k none :: lsL (rLoad (mkR k g s2 L2) 8 (Int.ofNat (n2 - 1)) 2).st (rLoad (mkR k g s2 L2) 8 (Int.ofNat (n2 - 1)) 2).L)), (4, .arr 4 wSh false l g)], 1, [1, 2, 3], [RtPre b 2 fl2 n n2 k l g F F2]⟩
noncomputable def rt3H (b fl2 s2 : Int) (L2 : LS) (n n2 k l : Nat) (g F F2 : Nat → Nat → AV) : List (Nat × AO) := [(1, .cells 5 [.int .i64 2, .ss 10 2 0 n none, .int .u64 0, .sym .i64 b, .sym .i64 3]), (2, .arr 10 tSh false n F), (3, .cells 9 (.ss 4 4 0 k none :: lsL s2 L2)), (4, .arr 4 wSh false l g)]
noncomputable def rt3R (b fl2 s2 : Int) (L2 : LS) (n n2 k l : Nat) (g F F2 : Nat → Nat → AV) : LR := ⟨4, .tup [], [(1, .cells 5 [.int .i64 2, .ss 10 5 0 n2 none, .int .u64 0, .sym .i64 b, .sym .i64 fl2]), (5, .arr 10 tSh false n2 F2), (3, .cells 9 (.ss 4 4 0 k none :: lsL (rLoad (mkR k g s2 L2) 8 (Int.ofNat (n2 - 1)) 3).st (rLoad (mkR k g s2 L2) 8 (Int.ofNat (n2 - 1)) 3).L)), (4, .arr 4 wSh false l g)], 1, [1, 2, 3], [RtPre b 3 fl2 n n2 k l g F F2]⟩
noncomputable def rt4H (b fl2 s2 : Int) (L2 : LS) (n n2 k l : Nat) (g F F2 : Nat → Nat → AV) : List (Nat × AO) := [(1, .cells 5 [.int .i64 2, .ss 10 2 0 n none, .int .u64 0, .sym .i64 b, .sym .i64 4]), (2, .arr 10 tSh false n F), (3, .cells 9 (.ss 4 4 0 k none :: lsL s2 L2)), (4, .arr 4 wSh false l g)]
noncomputable def rt4R (b fl2 s2 : Int) (L2 : LS) (n n2 k l : Nat) (g F F2 : Nat → Nat → AV) : LR := ⟨4, .tup [], [(1, .cells 5 [.int .i64 2, .ss 10 5 0 n2 none, .int .u64 0, .sym .i64 b, .sym .i64 fl2]), (5, .arr 10 tSh false n2 F2), (3, .cells 9 (.ss 4 4 0 k none :: lsL (rLoad (mkR k g s2 L2) 8 (Int.ofNat (n2 - 1)) 4).st (rLoad (mkR k g s2 L2) 8 (Int.ofNat (n2 - 1)) 4).L)), (4, .arr 4 wSh false l g)], 1, [1, 2, 3], [RtPre b 4 fl2 n n2 k l g F F2]⟩
noncomputable def rt5H (b fl2 s2 : Int) (L2 : LS) (n n2 k l : Nat) (g F F2 : Nat → Nat → AV) : List (Nat × AO) := [(1, .cells 5 [.int .i64 2, .ss 10 2 0 n none, .int .u64 0, .sym .i64 b, .sym .i64 5]), (2, .arr 10 tSh false n F), (3, .cells 9 (.ss 4 4 0 k none :: lsL s2 L2)), (4, .arr 4 wSh false l g)]
noncomputable def rt5R (b fl2 s2 : Int) (L2 : LS) (n n2 k l : Nat) (g F F2 : Nat → Nat → AV) : LR := ⟨4, .tup [], [(1, .cells 5 [.int .i64 2, .ss 10 5 0 n2 none, .int .u64 0, .sym .i64 b, .sym .i64 fl2]), (5, .arr 10 tSh false n2 F2), (3, .cells 9 (.ss 4 4 0 k none :: lsL (rLoad (mkR k g s2 L2) 8 (Int.ofNat (n2 - 1)) 5).st (rLoad (mkR k g s2 L2) 8 (Int.ofNat (n2 - 1)) 5).L)), (4, .arr 4 wSh false l g)], 1, [1, 2, 3], [RtPre b 5 fl2 n n2 k l g F F2]⟩
noncomputable def rt6H (b fl2 s2 : Int) (L2 : LS) (n n2 k l : Nat) (g F F2 : Nat → Nat → AV) : List (Nat × AO) := [(1, .cells 5 [.int .i64 2, .ss 10 2 0 n none, .int .u64 0, .sym .i64 b, .sym .i64 6]), (2, .arr 10 tSh false n F), (3, .cells 9 (.ss 4 4 0 k none :: lsL s2 L2)), (4, .arr 4 wSh false l g)]
noncomputable def rt6R (b fl2 s2 : Int) (L2 : LS) (n n2 k l : Nat) (g F F2 : Nat → Nat → AV) : LR := ⟨4, .tup [], [(1, .cells 5 [.int .i64 2, .ss 10 5 0 n2 none, .int .u64 0, .sym .i64 b, .sym .i64 fl2]), (5, .arr 10 tSh false n2 F2), (3, .cells 9 (.ss 4 4 0 k none :: lsL (rLoad (mkR k g s2 L2) 8 (Int.ofNat (n2 - 1)) 6).st (rLoad (mkR k g s2 L2) 8 (Int.ofNat (n2 - 1)) 6).L)), (4, .arr 4 wSh false l g)], 1, [1, 2, 3], [RtPre b 6 fl2 n n2 k l g F F2]⟩
noncomputable def rt7H (b fl2 s2 : Int) (L2 : LS) (n n2 k l : Nat) (g F F2 : Nat → Nat → AV) : List (Nat × AO) := [(1, .cells 5 [.int .i64 2, .ss 10 2 0 n none, .int .u64 0, .sym .i64 b, .sym .i64 7]), (2, .arr 10 tSh false n F), (3, .cells 9 (.ss 4 4 0 k none :: lsL s2 L2)), (4, .arr 4 wSh false l g)]
noncomputable def rt7R (b fl2 s2 : Int) (L2 : LS) (n n2 k l : Nat) (g F F2 : Nat → Nat → AV) : LR := ⟨4, .tup [], [(1, .cells 5 [.int .i64 2, .ss 10 5 0 n2 none, .int .u64 0, .sym .i64 b, .sym .i64 fl2]), (5, .arr 10 tSh false n2 F2), (3, .cells 9 (.ss 4 4 0 k none :: lsL (rLoad (mkR k g s2 L2) 8 (Int.ofNat (n2 - 1)) 7).st (rLoad (mkR k g s2 L2) 8 (Int.ofNat (n2 - 1)) 7).L)), (4, .arr 4 wSh false l g)], 1, [1, 2, 3], [RtPre b 7 fl2 n n2 k l g F F2]⟩
noncomputable def rt8H (b fl2 s2 : Int) (L2 : LS) (n n2 k l : Nat) (g F F2 : Nat → Nat → AV) : List (Nat × AO) := [(1, .cells 5 [.int .i64 2, .ss 10 2 0 n none, .int .u64 0, .sym .i64 b, .sym .i64 8]), (2, .arr 10 tSh false n F), (3, .cells 9 (.ss 4 4 0 k none :: lsL s2 L2)), (4, .arr 4 wSh false l g)]
noncomputable def rt8R (b fl2 s2 : Int) (L2 : LS) (n n2 k l : Nat) (g F F2 : Nat → Nat → AV) : LR := ⟨4, .tup [], [(1, .cells 5 [.int .i64 2, .ss 10 5 0 n2 none, .int .u64 0, .sym .i64 b, .sym .i64 fl2]), (5, .arr 10 tSh false n2 F2), (3, .cells 9 (.ss 4 4 0 k none :: lsL (rLoad (mkR k g s2 L2) 8 (Int.ofNat (n2 - 1)) 8).st (rLoad (mkR k g s2 L2) 8 (Int.ofNat (n2 - 1)) 8).L)), (4, .arr 4 wSh false l g)], 1, [1, 2, 3], [RtPre b 8 fl2 n n2 k l g F F2]⟩
noncomputable def rt9cH (b fl2 s2 : Int) (L2 : LS) (n n2 k l : Nat) (g F F2 : Nat → Nat → AV) : List (Nat × AO) := [(1, .cells 5 [.int .i64 2, .ss 10 2 0 n none, .int .u64 0, .sym .i64 b, .sym .i64 9]), (2, .arr 10 tSh false n F), (3, .cells 9 (.ss 4 4 0 k none :: lsL s2 L2)), (4, .arr 4 wSh false l g)]
noncomputable def rt9cR (b fl2 s2 : Int) (L2 : LS) (n n2 k l : Nat) (g F F2 : Nat → Nat → AV) : LR := ⟨4, .tup [], [(1, .cells 5 [.int .i64 2, .ss 10 5 0 n2 none, .int .u64 0, .sym .i64 b, .sym .i64 fl2]), (5, .arr 10 tSh false n2 F2), (3, .cells 9 (.ss 4 4 0 k none :: lsL (rLoad (mkR k g s2 L2) 8 (Int.ofNat (n2 - 1)) 9).st (rLoad (mkR k g s2 L2) 8 (Int.ofNat (n2 - 1)) 9).L)), (4, .arr 4 wSh false l g)], 1, [1, 2, 3], [RtPre b 9 fl2 n n2 k l g F F2, Int.ofNat n2 ≠ 4 * b]⟩
noncomputable def rt9oH (b fl2 s2 : Int) (L2 : LS) (n n2 k l : Nat) (g F F2 : Nat → Nat → AV) : List (Nat × AO) := [(1, .cells 5 [.int .i64 2, .ss 10 2 0 n none, .int .u64 0, .sym .i64 b, .sym .i64 9]), (2, .arr 10 tSh false n F), (3, .cells 9 (.ss 4 4 0 k none :: lsL s2 L2)), (4, .arr 4 wSh false l g)]
noncomputable def rt9oR (b fl2 s2 : Int) (L2 : LS) (n n2 k l : Nat) (g F F2 : Nat → Nat → AV) : LR := ⟨4, .tup [], [(1, .cells 5 [.int .i64 0, .ss 10 5 0 n2 none, .int .u64 0, .sym .i64 b, .sym .i64 fl2]), (5, .arr 10 tSh false n2 F2), (3, .cells 9 (.ss 4 4 0 k none :: lsL (rLoad (mkR k g s2 L2) 8 (Int.ofNat (n2 - 1)) 9).st (rLoad (mkR k g s2 L2) 8 (Int.ofNat (n2 - 1)) 9).L)), (4, .arr 4 wSh false l g)], 1, [1, 2, 3], [RtPre b 9 fl2 n n2 k l g F F2, Int.ofNat n2 = 4 * b]⟩
noncomputable def rt0nH (b fl2 s2 : Int) (L2 : LS) (n n2 k l : Nat) (g F F2 : Nat → Nat → AV) : List (Nat × AO) := [(1, .cells 5 [.int .i64 2, .ss 10 2 0 n none, .int .u64 0, .sym .i64 b, .sym .i64 0]), (2, .arr 10 tSh false n F), (3, .cells 9 (.ss 4 4 0 k none :: lsL s2 L2)), (4, .arr 4 wSh false l g)]
noncomputable def rt0nR (b fl2 s2 : Int) (L2 : LS) (n n2 k l : Nat) (g F F2 : Nat → Nat → AV) : LR := ⟨4, .tup [], [(1, .cells 5 [.int .i64 2, .ss 10 5 0 n2 none, .int .u64 0, .sym .i64 b, .sym .i64 fl2]), (5, .arr 10 tSh false n2 F2), (3, .cells 9 (.ss 4 4 0 k none :: lsL (rLoad (mkR k g s2 L2) 8 (Int.ofNat (n2 - 1)) 0).st (rLoad (mkR k g s2 L2) 8 (Int.ofNat (n2 - 1)) 0).L)), (4, .arr 4 wSh false l g)], 1, [1, 2, 3], [RtPre b 0 fl2 n n2 k l g F F2, dWord (dOf k g) 8 (Int.ofNat n) 0 ≠ 0]⟩
noncomputable def rt0cH (b fl2 s2 : Int) (L2 : LS) (n n2 k l : Nat) (g F F2 : Nat → Nat → AV) : List (Nat × AO) := [(1, .cells 5 [.int .i64 2, .ss 10 2 0 n none, .int .u64 0, .sym .i64 b, .sym .i64 0]), (2, .arr 10 tSh false n F), (3, .cells 9 (.ss 4 4 0 k none :: lsL s2 L2)), (4, .arr 4 wSh false l g)]
noncomputable def rt0cR (b fl2 s2 : Int) (L2 : LS) (n n2 k l : Nat) (g F F2 : Nat → Nat → AV) : LR := ⟨4, .tup [], [(1, .cells 5 [.int .i64 2, .ss 10 5 0 n2 none, .int .u64 0, .sym .i64 b, .sym .i64 fl2]), (5, .arr 10 tSh false n2 F2), (3, .cells 9 (.ss 4 4 0 k none :: lsL (rLoad (mkR k g s2 L2) 8 (Int.ofNat (n2 - 1)) 0).st (rLoad (mkR k g s2 L2) 8 (Int.ofNat (n2 - 1)) 0).L)), (4, .arr 4 wSh false l g)], 1, [1, 2, 3], [RtPre b 0 fl2 n n2 k l g F F2, dWord (dOf k g) 8 (Int.ofNat n) 0 = 0, Int.ofNat n2 ≠ 4 * b]⟩
noncomputable def rt0oH (b fl2 s2 : Int) (L2 : LS) (n n2 k l : Nat) (g F F2 : Nat → Nat → AV) : List (Nat × AO) := [(1, .cells 5 [.int .i64 2, .ss 10 2 0 n none, .int .u64 0, .sym .i64 b, .sym .i64 0]), (2, .arr 10 tSh false n F), (3, .cells 9 (.ss 4 4 0 k none :: lsL s2 L2)), (4, .arr 4 wSh false l g)]
noncomputable def rt0oR (b fl2 s2 : Int) (L2 : LS) (n n2 k l : Nat) (g F F2 : Nat → Nat → AV) : LR := ⟨4, .tup [], [(1, .cells 5 [.int .i64 0, .ss 10 5 0 n2 none, .int .u64 0, .sym .i64 b, .sym .i64 fl2]), (5, .arr 10 tSh false n2 F2), (3, .cells 9 (.ss 4 4 0 k none :: lsL (rLoad (mkR k g s2 L2) 8 (Int.ofNat (n2 - 1)) 0).st (rLoad (mkR k g s2 L2) 8 (Int.ofNat (n2 - 1)) 0).L)), (4, .arr 4 wSh false l g)], 1, [1, 2, 3], [RtPre b 0 fl2 n n2 k l g F F2, dWord (dOf k g) 8 (Int.ofNat n) 0 = 0, Int.ofNat n2 = 4 * b]⟩
end Go.Proofs.Ytmlfmmnnbdlabaa
