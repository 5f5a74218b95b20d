/-
  Hazards: the words of one thread.
-/
import Derived.Test.YtljeiencnpnbkaaDoorUHnDef
set_option linter.unusedSimpArgs false
set_option linter.unusedVariables false
namespace Go.Proofs.YtljeiencnpnbkaaDoor
open Go.Ev
theorem hn_any (m : Nat) (f : Nat → Nat → AV) (ii : Nat) (M : List Int → Option Int) (k a g : Int) : anyX EHm 3000 hnOps hnOps.size (Array.replicate hnOps.size false) (hnA m f ii M k a g) = some [hnB m f ii M k a g (mget M [a, g, 0]), hnB m f ii M k a g (mget M [a, g, 0]), hnB m f ii M k a g (mget M [a, g, 0]), hnB m f ii M k a g (match setKey M [a, g, 0] (some (mval M [a, g, 0])) [a, g, 0] with | some n => n | none => 0), hnB m f ii M k a g (match setKey M [a, g, 0] (some (mval M [a, g, 0])) [a, g, 0] with | some n => n | none => 0), hnB m f ii M k a g (match setKey M [a, g, 0] (some (mval M [a, g, 0])) [a, g, 0] with | some n => n | none => 0), hnB m f ii M k a g (mget M [a, g, 0]), hnB m f ii M k a g (mget M [a, g, 0]), hnB m f ii M k a g (mget M [a, g, 0]), hnB m f ii M k a g (match setKey M [a, g, 0] (some (mval M [a, g, 0])) [a, g, 0] with | some n => n | none => 0), hnB m f ii M k a g (match setKey M [a, g, 0] (some (mval M [a, g, 0])) [a, g, 0] with | some n => n | none => 0), hnB m f ii M k a g (match setKey M [a, g, 0] (some (mval M [a, g, 0])) [a, g, 0] with | some n => n | none => 0)] := by kernel_rfl
theorem hn_reg (m : Nat) (f : Nat → Nat → AV) (ii : Nat) (M : List Int → Option Int) (k a g : Int) : CodeHolds Tryd.prog (.region 10 hnOps true) (hnA m f ii M k a g) .norm (hnB m f ii M k a g (mget M [a, g, 0])) := by
  have e : (match setKey M [a, g, 0] (some (mval M [a, g, 0])) [a, g, 0] with | some n => n | none => 0) = mget M [a, g, 0] := by unfold setKey; rw [if_pos rfl]; rfl
  refine region_anyX EHm_ok (by kernel_rfl) (hn_any m f ii M k a g) (fun t ht => ?_) (fun p hp => (by cases hp))
  rw [e] at ht
  simp only [List.mem_cons, List.not_mem_nil, or_false, or_self] at ht
  exact ht
theorem hnf0_1 (m : Nat) (f : Nat → Nat → AV) (ii : Nat) (M : List Int → Option Int) : roundB EHm 3000 hnL ((hnS m f ii M 0).hp) [] (hnS m f ii M 0) [Hint.b false] (hnS m f ii (hAdd M (avInt (f (0 + ii) 7))) 1) =
 some (Ex.norm, [(0 : Nat) = 0,
 m = m,
 (none : Option Nat) = none,
 Int.ofNat m = Int.ofNat m,
 Int.ofNat ii = Int.ofNat ii,
 avInt (f (0 + ii) 7) = avInt (f (0 + ii) 7),
 avInt (f (0 + ii) 8) = avInt (f (0 + ii) 8),
 avInt (f (0 + ii) 9) = avInt (f (0 + ii) 9),
 avInt (f (0 + ii) 0) = avInt (f (0 + ii) 0),
 avInt (f (0 + ii) 1) = avInt (f (0 + ii) 1),
 avInt (f (0 + ii) 2) = avInt (f (0 + ii) 2),
 avInt (f (0 + ii) 3) = avInt (f (0 + ii) 3),
 avInt (f (0 + ii) 4) = avInt (f (0 + ii) 4),
 avInt (f (0 + ii) 5) = avInt (f (0 + ii) 5),
 avInt (f (0 + ii) 6) = avInt (f (0 + ii) 6),
 avInt (f (0 + ii) 7) = avInt (f (0 + ii) 7),
 avInt (f (0 + ii) 8) = avInt (f (0 + ii) 8),
 avInt (f (0 + ii) 9) = avInt (f (0 + ii) 9),
 ∀ (k : List Int), M k = hAdd M (avInt (f (0 + ii) 7)) k,
 true = true,
 (1 : Nat) ≤ (1 : Nat),
 tabF tab = tabF tab ∧ plainSh (List.map kindOfV tab) = true ∨ ∀ (i : Nat), i < 1 → rowOb (List.map kindOfV tab) 0 (tabF tab i) (tabF tab i),
 true = true,
 m ≤ m,
 f = f ∧ plainSh [CK.int IntKind.u64, CK.int IntKind.u64, CK.int IntKind.u64, CK.int IntKind.u64, CK.int IntKind.u64, CK.int IntKind.u64, CK.int IntKind.u64, CK.int IntKind.u64, CK.int IntKind.u64, CK.int IntKind.u64] = true ∨ ∀ (i : Nat), i < m → rowOb [CK.int IntKind.u64, CK.int IntKind.u64, CK.int IntKind.u64, CK.int IntKind.u64, CK.int IntKind.u64, CK.int IntKind.u64, CK.int IntKind.u64, CK.int IntKind.u64, CK.int IntKind.u64, CK.int IntKind.u64] 0 (f i) (f i),
 decide (hSlot (hUn (avInt (f (0 + ii) 7))) ≥ 0) = false,
 TabIs tab (tabF tab),
 0 ≤ hUn (avInt (f (0 + ii) 7)),
 hUn (avInt (f (0 + ii) 7)) < 9223372036854775808,
 TabIs tab (tabF tab),
 0 ≤ avInt (f (0 + ii) 7),
 avInt (f (0 + ii) 7) < 18446744073709551616]) := by kernel_rfl
theorem hnp0_1 (m : Nat) (f : Nat → Nat → AV) (ii : Nat) (M : List Int → Option Int) : roundB EHm 3000 (seqs [hnR6, hnIf] Code.skip) ((hnS m f ii M 0).hp) [] (hnS m f ii M 0) [] (hnS m f ii M 0) =
 some (Ex.norm, [(0 : Nat) = 0,
 m = m,
 (none : Option Nat) = none,
 Int.ofNat m = Int.ofNat m,
 Int.ofNat ii = Int.ofNat ii,
 avInt (f (0 + ii) 7) = avInt (f (0 + ii) 7),
 avInt (f (0 + ii) 8) = avInt (f (0 + ii) 8),
 avInt (f (0 + ii) 9) = avInt (f (0 + ii) 9),
 avInt (f (0 + ii) 0) = avInt (f (0 + ii) 0),
 avInt (f (0 + ii) 1) = avInt (f (0 + ii) 1),
 avInt (f (0 + ii) 2) = avInt (f (0 + ii) 2),
 avInt (f (0 + ii) 3) = avInt (f (0 + ii) 3),
 avInt (f (0 + ii) 4) = avInt (f (0 + ii) 4),
 avInt (f (0 + ii) 5) = avInt (f (0 + ii) 5),
 avInt (f (0 + ii) 6) = avInt (f (0 + ii) 6),
 avInt (f (0 + ii) 7) = avInt (f (0 + ii) 7),
 avInt (f (0 + ii) 8) = avInt (f (0 + ii) 8),
 avInt (f (0 + ii) 9) = avInt (f (0 + ii) 9),
 ∀ (k : List Int), M k = M k,
 true = true,
 (1 : Nat) ≤ (1 : Nat),
 tabF tab = tabF tab ∧ plainSh (List.map kindOfV tab) = true ∨ ∀ (i : Nat), i < 1 → rowOb (List.map kindOfV tab) 0 (tabF tab i) (tabF tab i),
 true = true,
 m ≤ m,
 f = f ∧ plainSh [CK.int IntKind.u64, CK.int IntKind.u64, CK.int IntKind.u64, CK.int IntKind.u64, CK.int IntKind.u64, CK.int IntKind.u64, CK.int IntKind.u64, CK.int IntKind.u64, CK.int IntKind.u64, CK.int IntKind.u64] = true ∨ ∀ (i : Nat), i < m → rowOb [CK.int IntKind.u64, CK.int IntKind.u64, CK.int IntKind.u64, CK.int IntKind.u64, CK.int IntKind.u64, CK.int IntKind.u64, CK.int IntKind.u64, CK.int IntKind.u64, CK.int IntKind.u64, CK.int IntKind.u64] 0 (f i) (f i)]) := by kernel_rfl
theorem hnq0_1 (m : Nat) (f : Nat → Nat → AV) (ii : Nat) (M : List Int → Option Int) : roundB EHm 3000 (seqs [hnR7, hnR8, hnR9] Code.skip) ((hnS m f ii M 0).hp) [(5, Src.nm 5)] (hnS m f ii M 0) [] (hnA m f ii M 0 (hSlot (hUn (avInt (f (0 + ii) 7)))) (rGen (hUn (avInt (f (0 + ii) 7))))) =
 some (Ex.norm, [(0 : Nat) = 0,
 (0 : Nat) = 0,
 (0 : Nat) = 0,
 m = m,
 (none : Option Nat) = none,
 Int.ofNat m = Int.ofNat m,
 Int.ofNat ii = Int.ofNat ii,
 avInt (f (0 + ii) 7) = avInt (f (0 + ii) 7),
 avInt (f (0 + ii) 8) = avInt (f (0 + ii) 8),
 avInt (f (0 + ii) 9) = avInt (f (0 + ii) 9),
 decide (hSlot (hUn (avInt (f (0 + ii) 7))) ≥ 0) = true,
 hSlot (hUn (avInt (f (0 + ii) 7))) = hSlot (hUn (avInt (f (0 + ii) 7))),
 rGen (hUn (avInt (f (0 + ii) 7))) = rGen (hUn (avInt (f (0 + ii) 7))),
 false = false,
 avInt (f (0 + ii) 0) = avInt (f (0 + ii) 0),
 avInt (f (0 + ii) 1) = avInt (f (0 + ii) 1),
 avInt (f (0 + ii) 2) = avInt (f (0 + ii) 2),
 avInt (f (0 + ii) 3) = avInt (f (0 + ii) 3),
 avInt (f (0 + ii) 4) = avInt (f (0 + ii) 4),
 avInt (f (0 + ii) 5) = avInt (f (0 + ii) 5),
 avInt (f (0 + ii) 6) = avInt (f (0 + ii) 6),
 avInt (f (0 + ii) 7) = avInt (f (0 + ii) 7),
 avInt (f (0 + ii) 8) = avInt (f (0 + ii) 8),
 avInt (f (0 + ii) 9) = avInt (f (0 + ii) 9),
 ∀ (k : List Int), M k = M k,
 true = true,
 (1 : Nat) ≤ (1 : Nat),
 tabF tab = tabF tab ∧ plainSh (List.map kindOfV tab) = true ∨ ∀ (i : Nat), i < 1 → rowOb (List.map kindOfV tab) 0 (tabF tab i) (tabF tab i),
 true = true,
 m ≤ m,
 f = f ∧ plainSh [CK.int IntKind.u64, CK.int IntKind.u64, CK.int IntKind.u64, CK.int IntKind.u64, CK.int IntKind.u64, CK.int IntKind.u64, CK.int IntKind.u64, CK.int IntKind.u64, CK.int IntKind.u64, CK.int IntKind.u64] = true ∨ ∀ (i : Nat), i < m → rowOb [CK.int IntKind.u64, CK.int IntKind.u64, CK.int IntKind.u64, CK.int IntKind.u64, CK.int IntKind.u64, CK.int IntKind.u64, CK.int IntKind.u64, CK.int IntKind.u64, CK.int IntKind.u64, CK.int IntKind.u64] 0 (f i) (f i),
 TabIs tab (tabF tab),
 0 ≤ hUn (avInt (f (0 + ii) 7)),
 hUn (avInt (f (0 + ii) 7)) < 9223372036854775808,
 TabIs tab (tabF tab),
 0 ≤ avInt (f (0 + ii) 7),
 avInt (f (0 + ii) 7) < 18446744073709551616]) := by kernel_rfl
theorem hnr0_1 (m : Nat) (f : Nat → Nat → AV) (ii : Nat) (M : List Int → Option Int) : roundB EHm 3000 hnR11 ((hnB m f ii M 0 (hSlot (hUn (avInt (f (0 + ii) 7)))) (rGen (hUn (avInt (f (0 + ii) 7)))) (mget M [hSlot (hUn (avInt (f (0 + ii) 7))), rGen (hUn (avInt (f (0 + ii) 7))), 0])).hp) [] (hnB m f ii M 0 (hSlot (hUn (avInt (f (0 + ii) 7)))) (rGen (hUn (avInt (f (0 + ii) 7)))) (mget M [hSlot (hUn (avInt (f (0 + ii) 7))), rGen (hUn (avInt (f (0 + ii) 7))), 0])) [] (hnC m f ii M 1 (hSlot (hUn (avInt (f (0 + ii) 7)))) (rGen (hUn (avInt (f (0 + ii) 7)))) (mget M [hSlot (hUn (avInt (f (0 + ii) 7))), rGen (hUn (avInt (f (0 + ii) 7))), 0])) =
 some (Ex.norm, [(0 : Nat) = 0,
 m = m,
 (none : Option Nat) = none,
 Int.ofNat m = Int.ofNat m,
 Int.ofNat ii = Int.ofNat ii,
 avInt (f (0 + ii) 7) = avInt (f (0 + ii) 7),
 avInt (f (0 + ii) 8) = avInt (f (0 + ii) 8),
 avInt (f (0 + ii) 9) = avInt (f (0 + ii) 9),
 hSlot (hUn (avInt (f (0 + ii) 7))) = hSlot (hUn (avInt (f (0 + ii) 7))),
 rGen (hUn (avInt (f (0 + ii) 7))) = rGen (hUn (avInt (f (0 + ii) 7))),
 false = false,
 avInt (f (0 + ii) 0) = avInt (f (0 + ii) 0),
 avInt (f (0 + ii) 1) = avInt (f (0 + ii) 1),
 avInt (f (0 + ii) 2) = avInt (f (0 + ii) 2),
 avInt (f (0 + ii) 3) = avInt (f (0 + ii) 3),
 avInt (f (0 + ii) 4) = avInt (f (0 + ii) 4),
 avInt (f (0 + ii) 5) = avInt (f (0 + ii) 5),
 avInt (f (0 + ii) 6) = avInt (f (0 + ii) 6),
 avInt (f (0 + ii) 7) = avInt (f (0 + ii) 7),
 avInt (f (0 + ii) 8) = avInt (f (0 + ii) 8),
 avInt (f (0 + ii) 9) = avInt (f (0 + ii) 9),
 ∀ (k : List Int), setKey (setKey M [hSlot (hUn (avInt (f (0 + ii) 7))), rGen (hUn (avInt (f (0 + ii) 7))), 0] (some (mval M [hSlot (hUn (avInt (f (0 + ii) 7))), rGen (hUn (avInt (f (0 + ii) 7))), 0]))) [hSlot (hUn (avInt (f (0 + ii) 7))), rGen (hUn (avInt (f (0 + ii) 7))), 0] (some (IntKind.i64.wrap (mget M [hSlot (hUn (avInt (f (0 + ii) 7))), rGen (hUn (avInt (f (0 + ii) 7))), 0] + 1))) k = setKey (setKey M [hSlot (hUn (avInt (f (0 + ii) 7))), rGen (hUn (avInt (f (0 + ii) 7))), 0] (some (mval M [hSlot (hUn (avInt (f (0 + ii) 7))), rGen (hUn (avInt (f (0 + ii) 7))), 0]))) [hSlot (hUn (avInt (f (0 + ii) 7))), rGen (hUn (avInt (f (0 + ii) 7))), 0] (some (IntKind.i64.wrap (mget M [hSlot (hUn (avInt (f (0 + ii) 7))), rGen (hUn (avInt (f (0 + ii) 7))), 0] + 1))) k,
 true = true,
 (1 : Nat) ≤ (1 : Nat),
 tabF tab = tabF tab ∧ plainSh (List.map kindOfV tab) = true ∨ ∀ (i : Nat), i < 1 → rowOb (List.map kindOfV tab) 0 (tabF tab i) (tabF tab i),
 true = true,
 m ≤ m,
 f = f ∧ plainSh [CK.int IntKind.u64, CK.int IntKind.u64, CK.int IntKind.u64, CK.int IntKind.u64, CK.int IntKind.u64, CK.int IntKind.u64, CK.int IntKind.u64, CK.int IntKind.u64, CK.int IntKind.u64, CK.int IntKind.u64] = true ∨ ∀ (i : Nat), i < m → rowOb [CK.int IntKind.u64, CK.int IntKind.u64, CK.int IntKind.u64, CK.int IntKind.u64, CK.int IntKind.u64, CK.int IntKind.u64, CK.int IntKind.u64, CK.int IntKind.u64, CK.int IntKind.u64, CK.int IntKind.u64] 0 (f i) (f i)]) := by kernel_rfl
theorem hnc0_1 (m : Nat) (f : Nat → Nat → AV) (ii : Nat) (M : List Int → Option Int) : castSt ((hnS m f ii M 0).hp) [] (hnC m f ii M 1 (hSlot (hUn (avInt (f (0 + ii) 7)))) (rGen (hUn (avInt (f (0 + ii) 7)))) (mget M [hSlot (hUn (avInt (f (0 + ii) 7))), rGen (hUn (avInt (f (0 + ii) 7))), 0])) (hnS m f ii (hAdd M (avInt (f (0 + ii) 7))) 1) =
 some ([(0 : Nat) = 0,
 m = m,
 (none : Option Nat) = none,
 Int.ofNat m = Int.ofNat m,
 Int.ofNat ii = Int.ofNat ii,
 avInt (f (0 + ii) 7) = avInt (f (0 + ii) 7),
 avInt (f (0 + ii) 8) = avInt (f (0 + ii) 8),
 avInt (f (0 + ii) 9) = avInt (f (0 + ii) 9),
 avInt (f (0 + ii) 0) = avInt (f (0 + ii) 0),
 avInt (f (0 + ii) 1) = avInt (f (0 + ii) 1),
 avInt (f (0 + ii) 2) = avInt (f (0 + ii) 2),
 avInt (f (0 + ii) 3) = avInt (f (0 + ii) 3),
 avInt (f (0 + ii) 4) = avInt (f (0 + ii) 4),
 avInt (f (0 + ii) 5) = avInt (f (0 + ii) 5),
 avInt (f (0 + ii) 6) = avInt (f (0 + ii) 6),
 avInt (f (0 + ii) 7) = avInt (f (0 + ii) 7),
 avInt (f (0 + ii) 8) = avInt (f (0 + ii) 8),
 avInt (f (0 + ii) 9) = avInt (f (0 + ii) 9),
 ∀ (k : List Int), setKey (setKey M [hSlot (hUn (avInt (f (0 + ii) 7))), rGen (hUn (avInt (f (0 + ii) 7))), 0] (some (mval M [hSlot (hUn (avInt (f (0 + ii) 7))), rGen (hUn (avInt (f (0 + ii) 7))), 0]))) [hSlot (hUn (avInt (f (0 + ii) 7))), rGen (hUn (avInt (f (0 + ii) 7))), 0] (some (IntKind.i64.wrap (mget M [hSlot (hUn (avInt (f (0 + ii) 7))), rGen (hUn (avInt (f (0 + ii) 7))), 0] + 1))) k = hAdd M (avInt (f (0 + ii) 7)) k,
 true = true,
 (1 : Nat) ≤ (1 : Nat),
 tabF tab = tabF tab ∧ plainSh (List.map kindOfV tab) = true ∨ ∀ (i : Nat), i < 1 → rowOb (List.map kindOfV tab) 0 (tabF tab i) (tabF tab i),
 true = true,
 m ≤ m,
 f = f ∧ plainSh [CK.int IntKind.u64, CK.int IntKind.u64, CK.int IntKind.u64, CK.int IntKind.u64, CK.int IntKind.u64, CK.int IntKind.u64, CK.int IntKind.u64, CK.int IntKind.u64, CK.int IntKind.u64, CK.int IntKind.u64] = true ∨ ∀ (i : Nat), i < m → rowOb [CK.int IntKind.u64, CK.int IntKind.u64, CK.int IntKind.u64, CK.int IntKind.u64, CK.int IntKind.u64, CK.int IntKind.u64, CK.int IntKind.u64, CK.int IntKind.u64, CK.int IntKind.u64, CK.int IntKind.u64] 0 (f i) (f i)]) := by kernel_rfl
theorem hnT0 (m : Nat) (f : Nat → Nat → AV) (ii : Nat) (M : List Int → Option Int) (hw0 : 0 ≤ (avInt (f (0 + ii) 7))) (hw1 : (avInt (f (0 + ii) 7)) < 18446744073709551616) : CodeHolds Tryd.prog hnL (hnS m f ii M 0) .norm (hnS m f ii (hAdd M (avInt (f (0 + ii) 7))) 1) := by
  have hu0 : 0 ≤ hUn (avInt (f (0 + ii) 7)) := by unfold hUn; omega
  have hu1 : hUn (avInt (f (0 + ii) 7)) < 9223372036854775808 := by unfold hUn; omega
  by_cases c : (hSlot (hUn (avInt (f (0 + ii) 7)))) ≥ 0
  · have hc : decide ((hSlot (hUn (avInt (f (0 + ii) 7)))) ≥ 0) = true := decide_eq_true c
    have hmap : ∀ kx, setKey (setKey M [(hSlot (hUn (avInt (f (0 + ii) 7)))), (rGen (hUn (avInt (f (0 + ii) 7)))), 0] (some (mval M [(hSlot (hUn (avInt (f (0 + ii) 7)))), (rGen (hUn (avInt (f (0 + ii) 7)))), 0]))) [(hSlot (hUn (avInt (f (0 + ii) 7)))), (rGen (hUn (avInt (f (0 + ii) 7)))), 0] (some (IntKind.i64.wrap (mget M [(hSlot (hUn (avInt (f (0 + ii) 7)))), (rGen (hUn (avInt (f (0 + ii) 7)))), 0] + 1))) kx = hAdd M (avInt (f (0 + ii) 7)) kx := fun kx => by
      rw [hAdd_y c]; unfold setKey; split <;> rfl
    have h4 : CodeHolds Tryd.prog hnR11 (hnB m f ii M 0 (hSlot (hUn (avInt (f (0 + ii) 7)))) (rGen (hUn (avInt (f (0 + ii) 7)))) (mget M [(hSlot (hUn (avInt (f (0 + ii) 7)))), (rGen (hUn (avInt (f (0 + ii) 7)))), 0])) .norm (hnC m f ii M 1 (hSlot (hUn (avInt (f (0 + ii) 7)))) (rGen (hUn (avInt (f (0 + ii) 7)))) (mget M [(hSlot (hUn (avInt (f (0 + ii) 7)))), (rGen (hUn (avInt (f (0 + ii) 7)))), 0])) := by
      refine code_of EHm_ok (hnr0_1 m f ii M) (ob_cons rfl (ob_cons rfl (ob_cons rfl (ob_cons rfl (ob_cons rfl (ob_cons rfl (ob_cons rfl (ob_cons rfl (ob_cons rfl (ob_cons rfl (ob_cons rfl (ob_cons rfl (ob_cons rfl (ob_cons rfl (ob_cons rfl (ob_cons rfl (ob_cons rfl (ob_cons rfl (ob_cons rfl (ob_cons rfl (ob_cons rfl (ob_cons (fun _ => rfl) (ob_cons rfl (ob_cons (Nat.le_refl _) (ob_cons (.inl ⟨rfl, rfl⟩) (ob_cons rfl (ob_cons (Nat.le_refl _) (ob_cons (.inl ⟨rfl, rfl⟩) ob_nil)))))))))))))))))))))))))))) rfl (by show 7 ≤ gnm 0; unfold gnm; omega)
    have h3 : CodeHolds Tryd.prog (.cond (.tmp 27) (.region 10 hnOps true) .skip) (hnA m f ii M 0 (hSlot (hUn (avInt (f (0 + ii) 7)))) (rGen (hUn (avInt (f (0 + ii) 7))))) .norm (hnB m f ii M 0 (hSlot (hUn (avInt (f (0 + ii) 7)))) (rGen (hUn (avInt (f (0 + ii) 7)))) (mget M [(hSlot (hUn (avInt (f (0 + ii) 7)))), (rGen (hUn (avInt (f (0 + ii) 7)))), 0])) := code_condT rfl (hn_reg m f ii M 0 (hSlot (hUn (avInt (f (0 + ii) 7)))) (rGen (hUn (avInt (f (0 + ii) 7)))))
    have h2 : CodeHolds Tryd.prog (seqs [hnR7, hnR8, hnR9] (.cond (.tmp 27) (.region 10 hnOps true) .skip)) (hnS m f ii M 0) .norm (hnB m f ii M 0 (hSlot (hUn (avInt (f (0 + ii) 7)))) (rGen (hUn (avInt (f (0 + ii) 7)))) (mget M [(hSlot (hUn (avInt (f (0 + ii) 7)))), (rGen (hUn (avInt (f (0 + ii) 7)))), 0])) := by
      have h2' := h3
      refine code_pre EHm_ok (hnq0_1 m f ii M) (ob_cons rfl (ob_cons rfl (ob_cons rfl (ob_cons rfl (ob_cons rfl (ob_cons rfl (ob_cons rfl (ob_cons rfl (ob_cons rfl (ob_cons rfl (ob_cons ?_ (ob_cons rfl (ob_cons rfl (ob_cons rfl (ob_cons rfl (ob_cons rfl (ob_cons rfl (ob_cons rfl (ob_cons rfl (ob_cons rfl (ob_cons rfl (ob_cons rfl (ob_cons rfl (ob_cons rfl (ob_cons (fun _ => rfl) (ob_cons rfl (ob_cons (Nat.le_refl _) (ob_cons (.inl ⟨rfl, rfl⟩) (ob_cons rfl (ob_cons (Nat.le_refl _) (ob_cons (.inl ⟨rfl, rfl⟩) (ob_cons (tabIs_self _) (ob_cons ?_ (ob_cons ?_ (ob_cons (tabIs_self _) (ob_cons ?_ (ob_cons ?_ ob_nil))))))))))))))))))))))))))))))))))))) rfl h3 ⟨fun p hp => (by cases hp), by show 5 ≤ 6; decide, rfl, subB_get _ rfl⟩ ⟨fun p hp => (by cases hp), by show 6 ≤ 7; decide, rfl, subB_get _ rfl⟩
      ·
        first | with_reducible assumption | exact rfl | exact tabIs_self _ | exact hw0 | exact hw1 | exact hu0 | exact hu1 | exact hc | exact hmap | exact .inl ⟨rfl, rfl⟩ | exact fun _ => rfl | (simp; done) | (simp; omega) | omega | (apply Nat.ble_eq_true_of_le; omega) | (simp [Nat.blt_eq]; omega)
      ·
        first | with_reducible assumption | exact rfl | exact tabIs_self _ | exact hw0 | exact hw1 | exact hu0 | exact hu1 | exact hc | exact hmap | exact .inl ⟨rfl, rfl⟩ | exact fun _ => rfl | (simp; done) | (simp; omega) | omega | exact Nat.le_refl _ | omega
      ·
        first | with_reducible assumption | exact rfl | exact tabIs_self _ | exact hw0 | exact hw1 | exact hu0 | exact hu1 | exact hc | exact hmap | exact .inl ⟨rfl, rfl⟩ | exact fun _ => rfl | (simp; done) | (simp; omega) | omega | omega
      ·
        first | with_reducible assumption | exact rfl | exact tabIs_self _ | exact hw0 | exact hw1 | exact hu0 | exact hu1 | exact hc | exact hmap | exact .inl ⟨rfl, rfl⟩ | exact fun _ => rfl | (simp; done) | (simp; omega) | omega | exact Nat.le_refl _ | omega
      ·
        first | with_reducible assumption | exact rfl | exact tabIs_self _ | exact hw0 | exact hw1 | exact hu0 | exact hu1 | exact hc | exact hmap | exact .inl ⟨rfl, rfl⟩ | exact fun _ => rfl | (simp; done) | (simp; omega) | omega | omega
    have h1 : CodeHolds Tryd.prog (.seq (.block 3 (seqs [hnR7, hnR8, hnR9] (.cond (.tmp 27) (.region 10 hnOps true) .skip))) hnR11) (hnS m f ii M 0) .norm (hnC m f ii M 1 (hSlot (hUn (avInt (f (0 + ii) 7)))) (rGen (hUn (avInt (f (0 + ii) 7)))) (mget M [(hSlot (hUn (avInt (f (0 + ii) 7)))), (rGen (hUn (avInt (f (0 + ii) 7)))), 0])) :=
      code_seq (code_blockN h2) h4 ⟨fun p hp => (by cases hp), by show 5 ≤ 7; decide, rfl, subB_get _ rfl⟩ ⟨fun p hp => (by cases hp), Nat.le_refl 7, rfl, subB_get _ rfl⟩
    have h5 : CodeHolds Tryd.prog hnL (hnS m f ii M 0) .norm (hnC m f ii M 1 (hSlot (hUn (avInt (f (0 + ii) 7)))) (rGen (hUn (avInt (f (0 + ii) 7)))) (mget M [(hSlot (hUn (avInt (f (0 + ii) 7)))), (rGen (hUn (avInt (f (0 + ii) 7)))), 0])) := by
      rw [hnL_eq]
      refine code_pre EHm_ok (hnp0_1 m f ii M) (ob_cons rfl (ob_cons rfl (ob_cons rfl (ob_cons rfl (ob_cons rfl (ob_cons rfl (ob_cons rfl (ob_cons rfl (ob_cons rfl (ob_cons rfl (ob_cons rfl (ob_cons rfl (ob_cons rfl (ob_cons rfl (ob_cons rfl (ob_cons rfl (ob_cons rfl (ob_cons rfl (ob_cons (fun _ => rfl) (ob_cons rfl (ob_cons (Nat.le_refl _) (ob_cons (.inl ⟨rfl, rfl⟩) (ob_cons rfl (ob_cons (Nat.le_refl _) (ob_cons (.inl ⟨rfl, rfl⟩) ob_nil))))))))))))))))))))))))) rfl h1 ⟨fun p hp => (by cases hp), Nat.le_refl _, rfl, fun n hn => hn⟩ ⟨fun p hp => (by cases hp), by show 5 ≤ 7; decide, rfl, subB_get _ rfl⟩
    refine code_cast h5 (hnc0_1 m f ii M) (ob_cons rfl (ob_cons rfl (ob_cons rfl (ob_cons rfl (ob_cons rfl (ob_cons rfl (ob_cons rfl (ob_cons rfl (ob_cons rfl (ob_cons rfl (ob_cons rfl (ob_cons rfl (ob_cons rfl (ob_cons rfl (ob_cons rfl (ob_cons rfl (ob_cons rfl (ob_cons rfl (ob_cons ?_ (ob_cons rfl (ob_cons (Nat.le_refl _) (ob_cons (.inl ⟨rfl, rfl⟩) (ob_cons rfl (ob_cons (Nat.le_refl _) (ob_cons (.inl ⟨rfl, rfl⟩) ob_nil))))))))))))))))))))))))) rfl
    ·
      first | with_reducible assumption | exact rfl | exact tabIs_self _ | exact hw0 | exact hw1 | exact hu0 | exact hu1 | exact hc | exact hmap | exact .inl ⟨rfl, rfl⟩ | exact fun _ => rfl | (simp; done) | (simp; omega) | omega | exact fun _ => rfl
  · have hc : decide ((hSlot (hUn (avInt (f (0 + ii) 7)))) ≥ 0) = false := decide_eq_false c
    have hmap : ∀ kx, M kx = hAdd M (avInt (f (0 + ii) 7)) kx := fun kx => by rw [hAdd_n c]
    refine code_of EHm_ok (hnf0_1 m f ii M) (ob_cons rfl (ob_cons rfl (ob_cons rfl (ob_cons rfl (ob_cons rfl (ob_cons rfl (ob_cons rfl (ob_cons rfl (ob_cons rfl (ob_cons rfl (ob_cons rfl (ob_cons rfl (ob_cons rfl (ob_cons rfl (ob_cons rfl (ob_cons rfl (ob_cons rfl (ob_cons rfl (ob_cons ?_ (ob_cons rfl (ob_cons (Nat.le_refl _) (ob_cons (.inl ⟨rfl, rfl⟩) (ob_cons rfl (ob_cons (Nat.le_refl _) (ob_cons (.inl ⟨rfl, rfl⟩) (ob_cons ?_ (ob_cons (tabIs_self _) (ob_cons ?_ (ob_cons ?_ (ob_cons (tabIs_self _) (ob_cons ?_ (ob_cons ?_ ob_nil)))))))))))))))))))))))))))))))) rfl (by show 5 ≤ gnm 0; unfold gnm; omega)
    ·
      first | with_reducible assumption | exact rfl | exact tabIs_self _ | exact hw0 | exact hw1 | exact hu0 | exact hu1 | exact hc | exact hmap | exact .inl ⟨rfl, rfl⟩ | exact fun _ => rfl | (simp; done) | (simp; omega) | omega | exact fun _ => rfl
    ·
      first | with_reducible assumption | exact rfl | exact tabIs_self _ | exact hw0 | exact hw1 | exact hu0 | exact hu1 | exact hc | exact hmap | exact .inl ⟨rfl, rfl⟩ | exact fun _ => rfl | (simp; done) | (simp; omega) | omega | (apply Nat.ble_eq_true_of_le; omega) | (simp [Nat.blt_eq]; omega)
    ·
      first | with_reducible assumption | exact rfl | exact tabIs_self _ | exact hw0 | exact hw1 | exact hu0 | exact hu1 | exact hc | exact hmap | exact .inl ⟨rfl, rfl⟩ | exact fun _ => rfl | (simp; done) | (simp; omega) | omega | exact Nat.le_refl _ | omega
    ·
      first | with_reducible assumption | exact rfl | exact tabIs_self _ | exact hw0 | exact hw1 | exact hu0 | exact hu1 | exact hc | exact hmap | exact .inl ⟨rfl, rfl⟩ | exact fun _ => rfl | (simp; done) | (simp; omega) | omega | omega
    ·
      first | with_reducible assumption | exact rfl | exact tabIs_self _ | exact hw0 | exact hw1 | exact hu0 | exact hu1 | exact hc | exact hmap | exact .inl ⟨rfl, rfl⟩ | exact fun _ => rfl | (simp; done) | (simp; omega) | omega | exact Nat.le_refl _ | omega
    ·
      first | with_reducible assumption | exact rfl | exact tabIs_self _ | exact hw0 | exact hw1 | exact hu0 | exact hu1 | exact hc | exact hmap | exact .inl ⟨rfl, rfl⟩ | exact fun _ => rfl | (simp; done) | (simp; omega) | omega | omega
theorem hnf1_1 (m : Nat) (f : Nat → Nat → AV) (ii : Nat) (M : List Int → Option Int) : roundB EHm 3000 hnL ((hnS m f ii M 1).hp) [] (hnS m f ii M 1) [Hint.b false] (hnS m f ii (hAdd M (avInt (f (0 + ii) 8))) 2) =
 some (Ex.norm, [(0 : Nat) = 0,
 m = m,
 (none : Option Nat) = none,
 Int.ofNat m = Int.ofNat m,
 Int.ofNat ii = Int.ofNat ii,
 avInt (f (0 + ii) 7) = avInt (f (0 + ii) 7),
 avInt (f (0 + ii) 8) = avInt (f (0 + ii) 8),
 avInt (f (0 + ii) 9) = avInt (f (0 + ii) 9),
 avInt (f (0 + ii) 0) = avInt (f (0 + ii) 0),
 avInt (f (0 + ii) 1) = avInt (f (0 + ii) 1),
 avInt (f (0 + ii) 2) = avInt (f (0 + ii) 2),
 avInt (f (0 + ii) 3) = avInt (f (0 + ii) 3),
 avInt (f (0 + ii) 4) = avInt (f (0 + ii) 4),
 avInt (f (0 + ii) 5) = avInt (f (0 + ii) 5),
 avInt (f (0 + ii) 6) = avInt (f (0 + ii) 6),
 avInt (f (0 + ii) 7) = avInt (f (0 + ii) 7),
 avInt (f (0 + ii) 8) = avInt (f (0 + ii) 8),
 avInt (f (0 + ii) 9) = avInt (f (0 + ii) 9),
 ∀ (k : List Int), M k = hAdd M (avInt (f (0 + ii) 8)) k,
 true = true,
 (1 : Nat) ≤ (1 : Nat),
 tabF tab = tabF tab ∧ plainSh (List.map kindOfV tab) = true ∨ ∀ (i : Nat), i < 1 → rowOb (List.map kindOfV tab) 0 (tabF tab i) (tabF tab i),
 true = true,
 m ≤ m,
 f = f ∧ plainSh [CK.int IntKind.u64, CK.int IntKind.u64, CK.int IntKind.u64, CK.int IntKind.u64, CK.int IntKind.u64, CK.int IntKind.u64, CK.int IntKind.u64, CK.int IntKind.u64, CK.int IntKind.u64, CK.int IntKind.u64] = true ∨ ∀ (i : Nat), i < m → rowOb [CK.int IntKind.u64, CK.int IntKind.u64, CK.int IntKind.u64, CK.int IntKind.u64, CK.int IntKind.u64, CK.int IntKind.u64, CK.int IntKind.u64, CK.int IntKind.u64, CK.int IntKind.u64, CK.int IntKind.u64] 0 (f i) (f i),
 decide (hSlot (hUn (avInt (f (0 + ii) 8))) ≥ 0) = false,
 TabIs tab (tabF tab),
 0 ≤ hUn (avInt (f (0 + ii) 8)),
 hUn (avInt (f (0 + ii) 8)) < 9223372036854775808,
 TabIs tab (tabF tab),
 0 ≤ avInt (f (0 + ii) 8),
 avInt (f (0 + ii) 8) < 18446744073709551616]) := by kernel_rfl
theorem hnp1_1 (m : Nat) (f : Nat → Nat → AV) (ii : Nat) (M : List Int → Option Int) : roundB EHm 3000 (seqs [hnR6, hnIf] Code.skip) ((hnS m f ii M 1).hp) [] (hnS m f ii M 1) [] (hnS m f ii M 1) =
 some (Ex.norm, [(0 : Nat) = 0,
 m = m,
 (none : Option Nat) = none,
 Int.ofNat m = Int.ofNat m,
 Int.ofNat ii = Int.ofNat ii,
 avInt (f (0 + ii) 7) = avInt (f (0 + ii) 7),
 avInt (f (0 + ii) 8) = avInt (f (0 + ii) 8),
 avInt (f (0 + ii) 9) = avInt (f (0 + ii) 9),
 avInt (f (0 + ii) 0) = avInt (f (0 + ii) 0),
 avInt (f (0 + ii) 1) = avInt (f (0 + ii) 1),
 avInt (f (0 + ii) 2) = avInt (f (0 + ii) 2),
 avInt (f (0 + ii) 3) = avInt (f (0 + ii) 3),
 avInt (f (0 + ii) 4) = avInt (f (0 + ii) 4),
 avInt (f (0 + ii) 5) = avInt (f (0 + ii) 5),
 avInt (f (0 + ii) 6) = avInt (f (0 + ii) 6),
 avInt (f (0 + ii) 7) = avInt (f (0 + ii) 7),
 avInt (f (0 + ii) 8) = avInt (f (0 + ii) 8),
 avInt (f (0 + ii) 9) = avInt (f (0 + ii) 9),
 ∀ (k : List Int), M k = M k,
 true = true,
 (1 : Nat) ≤ (1 : Nat),
 tabF tab = tabF tab ∧ plainSh (List.map kindOfV tab) = true ∨ ∀ (i : Nat), i < 1 → rowOb (List.map kindOfV tab) 0 (tabF tab i) (tabF tab i),
 true = true,
 m ≤ m,
 f = f ∧ plainSh [CK.int IntKind.u64, CK.int IntKind.u64, CK.int IntKind.u64, CK.int IntKind.u64, CK.int IntKind.u64, CK.int IntKind.u64, CK.int IntKind.u64, CK.int IntKind.u64, CK.int IntKind.u64, CK.int IntKind.u64] = true ∨ ∀ (i : Nat), i < m → rowOb [CK.int IntKind.u64, CK.int IntKind.u64, CK.int IntKind.u64, CK.int IntKind.u64, CK.int IntKind.u64, CK.int IntKind.u64, CK.int IntKind.u64, CK.int IntKind.u64, CK.int IntKind.u64, CK.int IntKind.u64] 0 (f i) (f i)]) := by kernel_rfl
theorem hnq1_1 (m : Nat) (f : Nat → Nat → AV) (ii : Nat) (M : List Int → Option Int) : roundB EHm 3000 (seqs [hnR7, hnR8, hnR9] Code.skip) ((hnS m f ii M 1).hp) [(5, Src.nm 5)] (hnS m f ii M 1) [] (hnA m f ii M 1 (hSlot (hUn (avInt (f (0 + ii) 8)))) (rGen (hUn (avInt (f (0 + ii) 8))))) =
 some (Ex.norm, [(0 : Nat) = 0,
 (0 : Nat) = 0,
 (0 : Nat) = 0,
 m = m,
 (none : Option Nat) = none,
 Int.ofNat m = Int.ofNat m,
 Int.ofNat ii = Int.ofNat ii,
 avInt (f (0 + ii) 7) = avInt (f (0 + ii) 7),
 avInt (f (0 + ii) 8) = avInt (f (0 + ii) 8),
 avInt (f (0 + ii) 9) = avInt (f (0 + ii) 9),
 decide (hSlot (hUn (avInt (f (0 + ii) 8))) ≥ 0) = true,
 hSlot (hUn (avInt (f (0 + ii) 8))) = hSlot (hUn (avInt (f (0 + ii) 8))),
 rGen (hUn (avInt (f (0 + ii) 8))) = rGen (hUn (avInt (f (0 + ii) 8))),
 false = false,
 avInt (f (0 + ii) 0) = avInt (f (0 + ii) 0),
 avInt (f (0 + ii) 1) = avInt (f (0 + ii) 1),
 avInt (f (0 + ii) 2) = avInt (f (0 + ii) 2),
 avInt (f (0 + ii) 3) = avInt (f (0 + ii) 3),
 avInt (f (0 + ii) 4) = avInt (f (0 + ii) 4),
 avInt (f (0 + ii) 5) = avInt (f (0 + ii) 5),
 avInt (f (0 + ii) 6) = avInt (f (0 + ii) 6),
 avInt (f (0 + ii) 7) = avInt (f (0 + ii) 7),
 avInt (f (0 + ii) 8) = avInt (f (0 + ii) 8),
 avInt (f (0 + ii) 9) = avInt (f (0 + ii) 9),
 ∀ (k : List Int), M k = M k,
 true = true,
 (1 : Nat) ≤ (1 : Nat),
 tabF tab = tabF tab ∧ plainSh (List.map kindOfV tab) = true ∨ ∀ (i : Nat), i < 1 → rowOb (List.map kindOfV tab) 0 (tabF tab i) (tabF tab i),
 true = true,
 m ≤ m,
 f = f ∧ plainSh [CK.int IntKind.u64, CK.int IntKind.u64, CK.int IntKind.u64, CK.int IntKind.u64, CK.int IntKind.u64, CK.int IntKind.u64, CK.int IntKind.u64, CK.int IntKind.u64, CK.int IntKind.u64, CK.int IntKind.u64] = true ∨ ∀ (i : Nat), i < m → rowOb [CK.int IntKind.u64, CK.int IntKind.u64, CK.int IntKind.u64, CK.int IntKind.u64, CK.int IntKind.u64, CK.int IntKind.u64, CK.int IntKind.u64, CK.int IntKind.u64, CK.int IntKind.u64, CK.int IntKind.u64] 0 (f i) (f i),
 TabIs tab (tabF tab),
 0 ≤ hUn (avInt (f (0 + ii) 8)),
 hUn (avInt (f (0 + ii) 8)) < 9223372036854775808,
 TabIs tab (tabF tab),
 0 ≤ avInt (f (0 + ii) 8),
 avInt (f (0 + ii) 8) < 18446744073709551616]) := by kernel_rfl
theorem hnr1_1 (m : Nat) (f : Nat → Nat → AV) (ii : Nat) (M : List Int → Option Int) : roundB EHm 3000 hnR11 ((hnB m f ii M 1 (hSlot (hUn (avInt (f (0 + ii) 8)))) (rGen (hUn (avInt (f (0 + ii) 8)))) (mget M [hSlot (hUn (avInt (f (0 + ii) 8))), rGen (hUn (avInt (f (0 + ii) 8))), 0])).hp) [] (hnB m f ii M 1 (hSlot (hUn (avInt (f (0 + ii) 8)))) (rGen (hUn (avInt (f (0 + ii) 8)))) (mget M [hSlot (hUn (avInt (f (0 + ii) 8))), rGen (hUn (avInt (f (0 + ii) 8))), 0])) [] (hnC m f ii M 2 (hSlot (hUn (avInt (f (0 + ii) 8)))) (rGen (hUn (avInt (f (0 + ii) 8)))) (mget M [hSlot (hUn (avInt (f (0 + ii) 8))), rGen (hUn (avInt (f (0 + ii) 8))), 0])) =
 some (Ex.norm, [(0 : Nat) = 0,
 m = m,
 (none : Option Nat) = none,
 Int.ofNat m = Int.ofNat m,
 Int.ofNat ii = Int.ofNat ii,
 avInt (f (0 + ii) 7) = avInt (f (0 + ii) 7),
 avInt (f (0 + ii) 8) = avInt (f (0 + ii) 8),
 avInt (f (0 + ii) 9) = avInt (f (0 + ii) 9),
 hSlot (hUn (avInt (f (0 + ii) 8))) = hSlot (hUn (avInt (f (0 + ii) 8))),
 rGen (hUn (avInt (f (0 + ii) 8))) = rGen (hUn (avInt (f (0 + ii) 8))),
 false = false,
 avInt (f (0 + ii) 0) = avInt (f (0 + ii) 0),
 avInt (f (0 + ii) 1) = avInt (f (0 + ii) 1),
 avInt (f (0 + ii) 2) = avInt (f (0 + ii) 2),
 avInt (f (0 + ii) 3) = avInt (f (0 + ii) 3),
 avInt (f (0 + ii) 4) = avInt (f (0 + ii) 4),
 avInt (f (0 + ii) 5) = avInt (f (0 + ii) 5),
 avInt (f (0 + ii) 6) = avInt (f (0 + ii) 6),
 avInt (f (0 + ii) 7) = avInt (f (0 + ii) 7),
 avInt (f (0 + ii) 8) = avInt (f (0 + ii) 8),
 avInt (f (0 + ii) 9) = avInt (f (0 + ii) 9),
 ∀ (k : List Int), setKey (setKey M [hSlot (hUn (avInt (f (0 + ii) 8))), rGen (hUn (avInt (f (0 + ii) 8))), 0] (some (mval M [hSlot (hUn (avInt (f (0 + ii) 8))), rGen (hUn (avInt (f (0 + ii) 8))), 0]))) [hSlot (hUn (avInt (f (0 + ii) 8))), rGen (hUn (avInt (f (0 + ii) 8))), 0] (some (IntKind.i64.wrap (mget M [hSlot (hUn (avInt (f (0 + ii) 8))), rGen (hUn (avInt (f (0 + ii) 8))), 0] + 1))) k = setKey (setKey M [hSlot (hUn (avInt (f (0 + ii) 8))), rGen (hUn (avInt (f (0 + ii) 8))), 0] (some (mval M [hSlot (hUn (avInt (f (0 + ii) 8))), rGen (hUn (avInt (f (0 + ii) 8))), 0]))) [hSlot (hUn (avInt (f (0 + ii) 8))), rGen (hUn (avInt (f (0 + ii) 8))), 0] (some (IntKind.i64.wrap (mget M [hSlot (hUn (avInt (f (0 + ii) 8))), rGen (hUn (avInt (f (0 + ii) 8))), 0] + 1))) k,
 true = true,
 (1 : Nat) ≤ (1 : Nat),
 tabF tab = tabF tab ∧ plainSh (List.map kindOfV tab) = true ∨ ∀ (i : Nat), i < 1 → rowOb (List.map kindOfV tab) 0 (tabF tab i) (tabF tab i),
 true = true,
 m ≤ m,
 f = f ∧ plainSh [CK.int IntKind.u64, CK.int IntKind.u64, CK.int IntKind.u64, CK.int IntKind.u64, CK.int IntKind.u64, CK.int IntKind.u64, CK.int IntKind.u64, CK.int IntKind.u64, CK.int IntKind.u64, CK.int IntKind.u64] = true ∨ ∀ (i : Nat), i < m → rowOb [CK.int IntKind.u64, CK.int IntKind.u64, CK.int IntKind.u64, CK.int IntKind.u64, CK.int IntKind.u64, CK.int IntKind.u64, CK.int IntKind.u64, CK.int IntKind.u64, CK.int IntKind.u64, CK.int IntKind.u64] 0 (f i) (f i)]) := by kernel_rfl
theorem hnc1_1 (m : Nat) (f : Nat → Nat → AV) (ii : Nat) (M : List Int → Option Int) : castSt ((hnS m f ii M 1).hp) [] (hnC m f ii M 2 (hSlot (hUn (avInt (f (0 + ii) 8)))) (rGen (hUn (avInt (f (0 + ii) 8)))) (mget M [hSlot (hUn (avInt (f (0 + ii) 8))), rGen (hUn (avInt (f (0 + ii) 8))), 0])) (hnS m f ii (hAdd M (avInt (f (0 + ii) 8))) 2) =
 some ([(0 : Nat) = 0,
 m = m,
 (none : Option Nat) = none,
 Int.ofNat m = Int.ofNat m,
 Int.ofNat ii = Int.ofNat ii,
 avInt (f (0 + ii) 7) = avInt (f (0 + ii) 7),
 avInt (f (0 + ii) 8) = avInt (f (0 + ii) 8),
 avInt (f (0 + ii) 9) = avInt (f (0 + ii) 9),
 avInt (f (0 + ii) 0) = avInt (f (0 + ii) 0),
 avInt (f (0 + ii) 1) = avInt (f (0 + ii) 1),
 avInt (f (0 + ii) 2) = avInt (f (0 + ii) 2),
 avInt (f (0 + ii) 3) = avInt (f (0 + ii) 3),
 avInt (f (0 + ii) 4) = avInt (f (0 + ii) 4),
 avInt (f (0 + ii) 5) = avInt (f (0 + ii) 5),
 avInt (f (0 + ii) 6) = avInt (f (0 + ii) 6),
 avInt (f (0 + ii) 7) = avInt (f (0 + ii) 7),
 avInt (f (0 + ii) 8) = avInt (f (0 + ii) 8),
 avInt (f (0 + ii) 9) = avInt (f (0 + ii) 9),
 ∀ (k : List Int), setKey (setKey M [hSlot (hUn (avInt (f (0 + ii) 8))), rGen (hUn (avInt (f (0 + ii) 8))), 0] (some (mval M [hSlot (hUn (avInt (f (0 + ii) 8))), rGen (hUn (avInt (f (0 + ii) 8))), 0]))) [hSlot (hUn (avInt (f (0 + ii) 8))), rGen (hUn (avInt (f (0 + ii) 8))), 0] (some (IntKind.i64.wrap (mget M [hSlot (hUn (avInt (f (0 + ii) 8))), rGen (hUn (avInt (f (0 + ii) 8))), 0] + 1))) k = hAdd M (avInt (f (0 + ii) 8)) k,
 true = true,
 (1 : Nat) ≤ (1 : Nat),
 tabF tab = tabF tab ∧ plainSh (List.map kindOfV tab) = true ∨ ∀ (i : Nat), i < 1 → rowOb (List.map kindOfV tab) 0 (tabF tab i) (tabF tab i),
 true = true,
 m ≤ m,
 f = f ∧ plainSh [CK.int IntKind.u64, CK.int IntKind.u64, CK.int IntKind.u64, CK.int IntKind.u64, CK.int IntKind.u64, CK.int IntKind.u64, CK.int IntKind.u64, CK.int IntKind.u64, CK.int IntKind.u64, CK.int IntKind.u64] = true ∨ ∀ (i : Nat), i < m → rowOb [CK.int IntKind.u64, CK.int IntKind.u64, CK.int IntKind.u64, CK.int IntKind.u64, CK.int IntKind.u64, CK.int IntKind.u64, CK.int IntKind.u64, CK.int IntKind.u64, CK.int IntKind.u64, CK.int IntKind.u64] 0 (f i) (f i)]) := by kernel_rfl
theorem hnT1 (m : Nat) (f : Nat → Nat → AV) (ii : Nat) (M : List Int → Option Int) (hw0 : 0 ≤ (avInt (f (0 + ii) 8))) (hw1 : (avInt (f (0 + ii) 8)) < 18446744073709551616) : CodeHolds Tryd.prog hnL (hnS m f ii M 1) .norm (hnS m f ii (hAdd M (avInt (f (0 + ii) 8))) 2) := by
  have hu0 : 0 ≤ hUn (avInt (f (0 + ii) 8)) := by unfold hUn; omega
  have hu1 : hUn (avInt (f (0 + ii) 8)) < 9223372036854775808 := by unfold hUn; omega
  by_cases c : (hSlot (hUn (avInt (f (0 + ii) 8)))) ≥ 0
  · have hc : decide ((hSlot (hUn (avInt (f (0 + ii) 8)))) ≥ 0) = true := decide_eq_true c
    have hmap : ∀ kx, setKey (setKey M [(hSlot (hUn (avInt (f (0 + ii) 8)))), (rGen (hUn (avInt (f (0 + ii) 8)))), 0] (some (mval M [(hSlot (hUn (avInt (f (0 + ii) 8)))), (rGen (hUn (avInt (f (0 + ii) 8)))), 0]))) [(hSlot (hUn (avInt (f (0 + ii) 8)))), (rGen (hUn (avInt (f (0 + ii) 8)))), 0] (some (IntKind.i64.wrap (mget M [(hSlot (hUn (avInt (f (0 + ii) 8)))), (rGen (hUn (avInt (f (0 + ii) 8)))), 0] + 1))) kx = hAdd M (avInt (f (0 + ii) 8)) kx := fun kx => by
      rw [hAdd_y c]; unfold setKey; split <;> rfl
    have h4 : CodeHolds Tryd.prog hnR11 (hnB m f ii M 1 (hSlot (hUn (avInt (f (0 + ii) 8)))) (rGen (hUn (avInt (f (0 + ii) 8)))) (mget M [(hSlot (hUn (avInt (f (0 + ii) 8)))), (rGen (hUn (avInt (f (0 + ii) 8)))), 0])) .norm (hnC m f ii M 2 (hSlot (hUn (avInt (f (0 + ii) 8)))) (rGen (hUn (avInt (f (0 + ii) 8)))) (mget M [(hSlot (hUn (avInt (f (0 + ii) 8)))), (rGen (hUn (avInt (f (0 + ii) 8)))), 0])) := by
      refine code_of EHm_ok (hnr1_1 m f ii M) (ob_cons rfl (ob_cons rfl (ob_cons rfl (ob_cons rfl (ob_cons rfl (ob_cons rfl (ob_cons rfl (ob_cons rfl (ob_cons rfl (ob_cons rfl (ob_cons rfl (ob_cons rfl (ob_cons rfl (ob_cons rfl (ob_cons rfl (ob_cons rfl (ob_cons rfl (ob_cons rfl (ob_cons rfl (ob_cons rfl (ob_cons rfl (ob_cons (fun _ => rfl) (ob_cons rfl (ob_cons (Nat.le_refl _) (ob_cons (.inl ⟨rfl, rfl⟩) (ob_cons rfl (ob_cons (Nat.le_refl _) (ob_cons (.inl ⟨rfl, rfl⟩) ob_nil)))))))))))))))))))))))))))) rfl (by show 7 ≤ gnm 0; unfold gnm; omega)
    have h3 : CodeHolds Tryd.prog (.cond (.tmp 27) (.region 10 hnOps true) .skip) (hnA m f ii M 1 (hSlot (hUn (avInt (f (0 + ii) 8)))) (rGen (hUn (avInt (f (0 + ii) 8))))) .norm (hnB m f ii M 1 (hSlot (hUn (avInt (f (0 + ii) 8)))) (rGen (hUn (avInt (f (0 + ii) 8)))) (mget M [(hSlot (hUn (avInt (f (0 + ii) 8)))), (rGen (hUn (avInt (f (0 + ii) 8)))), 0])) := code_condT rfl (hn_reg m f ii M 1 (hSlot (hUn (avInt (f (0 + ii) 8)))) (rGen (hUn (avInt (f (0 + ii) 8)))))
    have h2 : CodeHolds Tryd.prog (seqs [hnR7, hnR8, hnR9] (.cond (.tmp 27) (.region 10 hnOps true) .skip)) (hnS m f ii M 1) .norm (hnB m f ii M 1 (hSlot (hUn (avInt (f (0 + ii) 8)))) (rGen (hUn (avInt (f (0 + ii) 8)))) (mget M [(hSlot (hUn (avInt (f (0 + ii) 8)))), (rGen (hUn (avInt (f (0 + ii) 8)))), 0])) := by
      have h2' := h3
      refine code_pre EHm_ok (hnq1_1 m f ii M) (ob_cons rfl (ob_cons rfl (ob_cons rfl (ob_cons rfl (ob_cons rfl (ob_cons rfl (ob_cons rfl (ob_cons rfl (ob_cons rfl (ob_cons rfl (ob_cons ?_ (ob_cons rfl (ob_cons rfl (ob_cons rfl (ob_cons rfl (ob_cons rfl (ob_cons rfl (ob_cons rfl (ob_cons rfl (ob_cons rfl (ob_cons rfl (ob_cons rfl (ob_cons rfl (ob_cons rfl (ob_cons (fun _ => rfl) (ob_cons rfl (ob_cons (Nat.le_refl _) (ob_cons (.inl ⟨rfl, rfl⟩) (ob_cons rfl (ob_cons (Nat.le_refl _) (ob_cons (.inl ⟨rfl, rfl⟩) (ob_cons (tabIs_self _) (ob_cons ?_ (ob_cons ?_ (ob_cons (tabIs_self _) (ob_cons ?_ (ob_cons ?_ ob_nil))))))))))))))))))))))))))))))))))))) rfl h3 ⟨fun p hp => (by cases hp), by show 5 ≤ 6; decide, rfl, subB_get _ rfl⟩ ⟨fun p hp => (by cases hp), by show 6 ≤ 7; decide, rfl, subB_get _ rfl⟩
      ·
        first | with_reducible assumption | exact rfl | exact tabIs_self _ | exact hw0 | exact hw1 | exact hu0 | exact hu1 | exact hc | exact hmap | exact .inl ⟨rfl, rfl⟩ | exact fun _ => rfl | (simp; done) | (simp; omega) | omega | (apply Nat.ble_eq_true_of_le; omega) | (simp [Nat.blt_eq]; omega)
      ·
        first | with_reducible assumption | exact rfl | exact tabIs_self _ | exact hw0 | exact hw1 | exact hu0 | exact hu1 | exact hc | exact hmap | exact .inl ⟨rfl, rfl⟩ | exact fun _ => rfl | (simp; done) | (simp; omega) | omega | exact Nat.le_refl _ | omega
      ·
        first | with_reducible assumption | exact rfl | exact tabIs_self _ | exact hw0 | exact hw1 | exact hu0 | exact hu1 | exact hc | exact hmap | exact .inl ⟨rfl, rfl⟩ | exact fun _ => rfl | (simp; done) | (simp; omega) | omega | omega
      ·
        first | with_reducible assumption | exact rfl | exact tabIs_self _ | exact hw0 | exact hw1 | exact hu0 | exact hu1 | exact hc | exact hmap | exact .inl ⟨rfl, rfl⟩ | exact fun _ => rfl | (simp; done) | (simp; omega) | omega | exact Nat.le_refl _ | omega
      ·
        first | with_reducible assumption | exact rfl | exact tabIs_self _ | exact hw0 | exact hw1 | exact hu0 | exact hu1 | exact hc | exact hmap | exact .inl ⟨rfl, rfl⟩ | exact fun _ => rfl | (simp; done) | (simp; omega) | omega | omega
    have h1 : CodeHolds Tryd.prog (.seq (.block 3 (seqs [hnR7, hnR8, hnR9] (.cond (.tmp 27) (.region 10 hnOps true) .skip))) hnR11) (hnS m f ii M 1) .norm (hnC m f ii M 2 (hSlot (hUn (avInt (f (0 + ii) 8)))) (rGen (hUn (avInt (f (0 + ii) 8)))) (mget M [(hSlot (hUn (avInt (f (0 + ii) 8)))), (rGen (hUn (avInt (f (0 + ii) 8)))), 0])) :=
      code_seq (code_blockN h2) h4 ⟨fun p hp => (by cases hp), by show 5 ≤ 7; decide, rfl, subB_get _ rfl⟩ ⟨fun p hp => (by cases hp), Nat.le_refl 7, rfl, subB_get _ rfl⟩
    have h5 : CodeHolds Tryd.prog hnL (hnS m f ii M 1) .norm (hnC m f ii M 2 (hSlot (hUn (avInt (f (0 + ii) 8)))) (rGen (hUn (avInt (f (0 + ii) 8)))) (mget M [(hSlot (hUn (avInt (f (0 + ii) 8)))), (rGen (hUn (avInt (f (0 + ii) 8)))), 0])) := by
      rw [hnL_eq]
      refine code_pre EHm_ok (hnp1_1 m f ii M) (ob_cons rfl (ob_cons rfl (ob_cons rfl (ob_cons rfl (ob_cons rfl (ob_cons rfl (ob_cons rfl (ob_cons rfl (ob_cons rfl (ob_cons rfl (ob_cons rfl (ob_cons rfl (ob_cons rfl (ob_cons rfl (ob_cons rfl (ob_cons rfl (ob_cons rfl (ob_cons rfl (ob_cons (fun _ => rfl) (ob_cons rfl (ob_cons (Nat.le_refl _) (ob_cons (.inl ⟨rfl, rfl⟩) (ob_cons rfl (ob_cons (Nat.le_refl _) (ob_cons (.inl ⟨rfl, rfl⟩) ob_nil))))))))))))))))))))))))) rfl h1 ⟨fun p hp => (by cases hp), Nat.le_refl _, rfl, fun n hn => hn⟩ ⟨fun p hp => (by cases hp), by show 5 ≤ 7; decide, rfl, subB_get _ rfl⟩
    refine code_cast h5 (hnc1_1 m f ii M) (ob_cons rfl (ob_cons rfl (ob_cons rfl (ob_cons rfl (ob_cons rfl (ob_cons rfl (ob_cons rfl (ob_cons rfl (ob_cons rfl (ob_cons rfl (ob_cons rfl (ob_cons rfl (ob_cons rfl (ob_cons rfl (ob_cons rfl (ob_cons rfl (ob_cons rfl (ob_cons rfl (ob_cons ?_ (ob_cons rfl (ob_cons (Nat.le_refl _) (ob_cons (.inl ⟨rfl, rfl⟩) (ob_cons rfl (ob_cons (Nat.le_refl _) (ob_cons (.inl ⟨rfl, rfl⟩) ob_nil))))))))))))))))))))))))) rfl
    ·
      first | with_reducible assumption | exact rfl | exact tabIs_self _ | exact hw0 | exact hw1 | exact hu0 | exact hu1 | exact hc | exact hmap | exact .inl ⟨rfl, rfl⟩ | exact fun _ => rfl | (simp; done) | (simp; omega) | omega | exact fun _ => rfl
  · have hc : decide ((hSlot (hUn (avInt (f (0 + ii) 8)))) ≥ 0) = false := decide_eq_false c
    have hmap : ∀ kx, M kx = hAdd M (avInt (f (0 + ii) 8)) kx := fun kx => by rw [hAdd_n c]
    refine code_of EHm_ok (hnf1_1 m f ii M) (ob_cons rfl (ob_cons rfl (ob_cons rfl (ob_cons rfl (ob_cons rfl (ob_cons rfl (ob_cons rfl (ob_cons rfl (ob_cons rfl (ob_cons rfl (ob_cons rfl (ob_cons rfl (ob_cons rfl (ob_cons rfl (ob_cons rfl (ob_cons rfl (ob_cons rfl (ob_cons rfl (ob_cons ?_ (ob_cons rfl (ob_cons (Nat.le_refl _) (ob_cons (.inl ⟨rfl, rfl⟩) (ob_cons rfl (ob_cons (Nat.le_refl _) (ob_cons (.inl ⟨rfl, rfl⟩) (ob_cons ?_ (ob_cons (tabIs_self _) (ob_cons ?_ (ob_cons ?_ (ob_cons (tabIs_self _) (ob_cons ?_ (ob_cons ?_ ob_nil)))))))))))))))))))))))))))))))) rfl (by show 5 ≤ gnm 0; unfold gnm; omega)
    ·
      first | with_reducible assumption | exact rfl | exact tabIs_self _ | exact hw0 | exact hw1 | exact hu0 | exact hu1 | exact hc | exact hmap | exact .inl ⟨rfl, rfl⟩ | exact fun _ => rfl | (simp; done) | (simp; omega) | omega | exact fun _ => rfl
    ·
      first | with_reducible assumption | exact rfl | exact tabIs_self _ | exact hw0 | exact hw1 | exact hu0 | exact hu1 | exact hc | exact hmap | exact .inl ⟨rfl, rfl⟩ | exact fun _ => rfl | (simp; done) | (simp; omega) | omega | (apply Nat.ble_eq_true_of_le; omega) | (simp [Nat.blt_eq]; omega)
    ·
      first | with_reducible assumption | exact rfl | exact tabIs_self _ | exact hw0 | exact hw1 | exact hu0 | exact hu1 | exact hc | exact hmap | exact .inl ⟨rfl, rfl⟩ | exact fun _ => rfl | (simp; done) | (simp; omega) | omega | exact Nat.le_refl _ | omega
    ·
      first | with_reducible assumption | exact rfl | exact tabIs_self _ | exact hw0 | exact hw1 | exact hu0 | exact hu1 | exact hc | exact hmap | exact .inl ⟨rfl, rfl⟩ | exact fun _ => rfl | (simp; done) | (simp; omega) | omega | omega
    ·
      first | with_reducible assumption | exact rfl | exact tabIs_self _ | exact hw0 | exact hw1 | exact hu0 | exact hu1 | exact hc | exact hmap | exact .inl ⟨rfl, rfl⟩ | exact fun _ => rfl | (simp; done) | (simp; omega) | omega | exact Nat.le_refl _ | omega
    ·
      first | with_reducible assumption | exact rfl | exact tabIs_self _ | exact hw0 | exact hw1 | exact hu0 | exact hu1 | exact hc | exact hmap | exact .inl ⟨rfl, rfl⟩ | exact fun _ => rfl | (simp; done) | (simp; omega) | omega | omega
theorem hnf2_1 (m : Nat) (f : Nat → Nat → AV) (ii : Nat) (M : List Int → Option Int) : roundB EHm 3000 hnL ((hnS m f ii M 2).hp) [] (hnS m f ii M 2) [Hint.b false] (hnS m f ii (hAdd M (avInt (f (0 + ii) 9))) 3) =
 some (Ex.norm, [(0 : Nat) = 0,
 m = m,
 (none : Option Nat) = none,
 Int.ofNat m = Int.ofNat m,
 Int.ofNat ii = Int.ofNat ii,
 avInt (f (0 + ii) 7) = avInt (f (0 + ii) 7),
 avInt (f (0 + ii) 8) = avInt (f (0 + ii) 8),
 avInt (f (0 + ii) 9) = avInt (f (0 + ii) 9),
 avInt (f (0 + ii) 0) = avInt (f (0 + ii) 0),
 avInt (f (0 + ii) 1) = avInt (f (0 + ii) 1),
 avInt (f (0 + ii) 2) = avInt (f (0 + ii) 2),
 avInt (f (0 + ii) 3) = avInt (f (0 + ii) 3),
 avInt (f (0 + ii) 4) = avInt (f (0 + ii) 4),
 avInt (f (0 + ii) 5) = avInt (f (0 + ii) 5),
 avInt (f (0 + ii) 6) = avInt (f (0 + ii) 6),
 avInt (f (0 + ii) 7) = avInt (f (0 + ii) 7),
 avInt (f (0 + ii) 8) = avInt (f (0 + ii) 8),
 avInt (f (0 + ii) 9) = avInt (f (0 + ii) 9),
 ∀ (k : List Int), M k = hAdd M (avInt (f (0 + ii) 9)) k,
 true = true,
 (1 : Nat) ≤ (1 : Nat),
 tabF tab = tabF tab ∧ plainSh (List.map kindOfV tab) = true ∨ ∀ (i : Nat), i < 1 → rowOb (List.map kindOfV tab) 0 (tabF tab i) (tabF tab i),
 true = true,
 m ≤ m,
 f = f ∧ plainSh [CK.int IntKind.u64, CK.int IntKind.u64, CK.int IntKind.u64, CK.int IntKind.u64, CK.int IntKind.u64, CK.int IntKind.u64, CK.int IntKind.u64, CK.int IntKind.u64, CK.int IntKind.u64, CK.int IntKind.u64] = true ∨ ∀ (i : Nat), i < m → rowOb [CK.int IntKind.u64, CK.int IntKind.u64, CK.int IntKind.u64, CK.int IntKind.u64, CK.int IntKind.u64, CK.int IntKind.u64, CK.int IntKind.u64, CK.int IntKind.u64, CK.int IntKind.u64, CK.int IntKind.u64] 0 (f i) (f i),
 decide (hSlot (hUn (avInt (f (0 + ii) 9))) ≥ 0) = false,
 TabIs tab (tabF tab),
 0 ≤ hUn (avInt (f (0 + ii) 9)),
 hUn (avInt (f (0 + ii) 9)) < 9223372036854775808,
 TabIs tab (tabF tab),
 0 ≤ avInt (f (0 + ii) 9),
 avInt (f (0 + ii) 9) < 18446744073709551616]) := by kernel_rfl
theorem hnp2_1 (m : Nat) (f : Nat → Nat → AV) (ii : Nat) (M : List Int → Option Int) : roundB EHm 3000 (seqs [hnR6, hnIf] Code.skip) ((hnS m f ii M 2).hp) [] (hnS m f ii M 2) [] (hnS m f ii M 2) =
 some (Ex.norm, [(0 : Nat) = 0,
 m = m,
 (none : Option Nat) = none,
 Int.ofNat m = Int.ofNat m,
 Int.ofNat ii = Int.ofNat ii,
 avInt (f (0 + ii) 7) = avInt (f (0 + ii) 7),
 avInt (f (0 + ii) 8) = avInt (f (0 + ii) 8),
 avInt (f (0 + ii) 9) = avInt (f (0 + ii) 9),
 avInt (f (0 + ii) 0) = avInt (f (0 + ii) 0),
 avInt (f (0 + ii) 1) = avInt (f (0 + ii) 1),
 avInt (f (0 + ii) 2) = avInt (f (0 + ii) 2),
 avInt (f (0 + ii) 3) = avInt (f (0 + ii) 3),
 avInt (f (0 + ii) 4) = avInt (f (0 + ii) 4),
 avInt (f (0 + ii) 5) = avInt (f (0 + ii) 5),
 avInt (f (0 + ii) 6) = avInt (f (0 + ii) 6),
 avInt (f (0 + ii) 7) = avInt (f (0 + ii) 7),
 avInt (f (0 + ii) 8) = avInt (f (0 + ii) 8),
 avInt (f (0 + ii) 9) = avInt (f (0 + ii) 9),
 ∀ (k : List Int), M k = M k,
 true = true,
 (1 : Nat) ≤ (1 : Nat),
 tabF tab = tabF tab ∧ plainSh (List.map kindOfV tab) = true ∨ ∀ (i : Nat), i < 1 → rowOb (List.map kindOfV tab) 0 (tabF tab i) (tabF tab i),
 true = true,
 m ≤ m,
 f = f ∧ plainSh [CK.int IntKind.u64, CK.int IntKind.u64, CK.int IntKind.u64, CK.int IntKind.u64, CK.int IntKind.u64, CK.int IntKind.u64, CK.int IntKind.u64, CK.int IntKind.u64, CK.int IntKind.u64, CK.int IntKind.u64] = true ∨ ∀ (i : Nat), i < m → rowOb [CK.int IntKind.u64, CK.int IntKind.u64, CK.int IntKind.u64, CK.int IntKind.u64, CK.int IntKind.u64, CK.int IntKind.u64, CK.int IntKind.u64, CK.int IntKind.u64, CK.int IntKind.u64, CK.int IntKind.u64] 0 (f i) (f i)]) := by kernel_rfl
theorem hnq2_1 (m : Nat) (f : Nat → Nat → AV) (ii : Nat) (M : List Int → Option Int) : roundB EHm 3000 (seqs [hnR7, hnR8, hnR9] Code.skip) ((hnS m f ii M 2).hp) [(5, Src.nm 5)] (hnS m f ii M 2) [] (hnA m f ii M 2 (hSlot (hUn (avInt (f (0 + ii) 9)))) (rGen (hUn (avInt (f (0 + ii) 9))))) =
 some (Ex.norm, [(0 : Nat) = 0,
 (0 : Nat) = 0,
 (0 : Nat) = 0,
 m = m,
 (none : Option Nat) = none,
 Int.ofNat m = Int.ofNat m,
 Int.ofNat ii = Int.ofNat ii,
 avInt (f (0 + ii) 7) = avInt (f (0 + ii) 7),
 avInt (f (0 + ii) 8) = avInt (f (0 + ii) 8),
 avInt (f (0 + ii) 9) = avInt (f (0 + ii) 9),
 decide (hSlot (hUn (avInt (f (0 + ii) 9))) ≥ 0) = true,
 hSlot (hUn (avInt (f (0 + ii) 9))) = hSlot (hUn (avInt (f (0 + ii) 9))),
 rGen (hUn (avInt (f (0 + ii) 9))) = rGen (hUn (avInt (f (0 + ii) 9))),
 false = false,
 avInt (f (0 + ii) 0) = avInt (f (0 + ii) 0),
 avInt (f (0 + ii) 1) = avInt (f (0 + ii) 1),
 avInt (f (0 + ii) 2) = avInt (f (0 + ii) 2),
 avInt (f (0 + ii) 3) = avInt (f (0 + ii) 3),
 avInt (f (0 + ii) 4) = avInt (f (0 + ii) 4),
 avInt (f (0 + ii) 5) = avInt (f (0 + ii) 5),
 avInt (f (0 + ii) 6) = avInt (f (0 + ii) 6),
 avInt (f (0 + ii) 7) = avInt (f (0 + ii) 7),
 avInt (f (0 + ii) 8) = avInt (f (0 + ii) 8),
 avInt (f (0 + ii) 9) = avInt (f (0 + ii) 9),
 ∀ (k : List Int), M k = M k,
 true = true,
 (1 : Nat) ≤ (1 : Nat),
 tabF tab = tabF tab ∧ plainSh (List.map kindOfV tab) = true ∨ ∀ (i : Nat), i < 1 → rowOb (List.map kindOfV tab) 0 (tabF tab i) (tabF tab i),
 true = true,
 m ≤ m,
 f = f ∧ plainSh [CK.int IntKind.u64, CK.int IntKind.u64, CK.int IntKind.u64, CK.int IntKind.u64, CK.int IntKind.u64, CK.int IntKind.u64, CK.int IntKind.u64, CK.int IntKind.u64, CK.int IntKind.u64, CK.int IntKind.u64] = true ∨ ∀ (i : Nat), i < m → rowOb [CK.int IntKind.u64, CK.int IntKind.u64, CK.int IntKind.u64, CK.int IntKind.u64, CK.int IntKind.u64, CK.int IntKind.u64, CK.int IntKind.u64, CK.int IntKind.u64, CK.int IntKind.u64, CK.int IntKind.u64] 0 (f i) (f i),
 TabIs tab (tabF tab),
 0 ≤ hUn (avInt (f (0 + ii) 9)),
 hUn (avInt (f (0 + ii) 9)) < 9223372036854775808,
 TabIs tab (tabF tab),
 0 ≤ avInt (f (0 + ii) 9),
 avInt (f (0 + ii) 9) < 18446744073709551616]) := by kernel_rfl
theorem hnr2_1 (m : Nat) (f : Nat → Nat → AV) (ii : Nat) (M : List Int → Option Int) : roundB EHm 3000 hnR11 ((hnB m f ii M 2 (hSlot (hUn (avInt (f (0 + ii) 9)))) (rGen (hUn (avInt (f (0 + ii) 9)))) (mget M [hSlot (hUn (avInt (f (0 + ii) 9))), rGen (hUn (avInt (f (0 + ii) 9))), 0])).hp) [] (hnB m f ii M 2 (hSlot (hUn (avInt (f (0 + ii) 9)))) (rGen (hUn (avInt (f (0 + ii) 9)))) (mget M [hSlot (hUn (avInt (f (0 + ii) 9))), rGen (hUn (avInt (f (0 + ii) 9))), 0])) [] (hnC m f ii M 3 (hSlot (hUn (avInt (f (0 + ii) 9)))) (rGen (hUn (avInt (f (0 + ii) 9)))) (mget M [hSlot (hUn (avInt (f (0 + ii) 9))), rGen (hUn (avInt (f (0 + ii) 9))), 0])) =
 some (Ex.norm, [(0 : Nat) = 0,
 m = m,
 (none : Option Nat) = none,
 Int.ofNat m = Int.ofNat m,
 Int.ofNat ii = Int.ofNat ii,
 avInt (f (0 + ii) 7) = avInt (f (0 + ii) 7),
 avInt (f (0 + ii) 8) = avInt (f (0 + ii) 8),
 avInt (f (0 + ii) 9) = avInt (f (0 + ii) 9),
 hSlot (hUn (avInt (f (0 + ii) 9))) = hSlot (hUn (avInt (f (0 + ii) 9))),
 rGen (hUn (avInt (f (0 + ii) 9))) = rGen (hUn (avInt (f (0 + ii) 9))),
 false = false,
 avInt (f (0 + ii) 0) = avInt (f (0 + ii) 0),
 avInt (f (0 + ii) 1) = avInt (f (0 + ii) 1),
 avInt (f (0 + ii) 2) = avInt (f (0 + ii) 2),
 avInt (f (0 + ii) 3) = avInt (f (0 + ii) 3),
 avInt (f (0 + ii) 4) = avInt (f (0 + ii) 4),
 avInt (f (0 + ii) 5) = avInt (f (0 + ii) 5),
 avInt (f (0 + ii) 6) = avInt (f (0 + ii) 6),
 avInt (f (0 + ii) 7) = avInt (f (0 + ii) 7),
 avInt (f (0 + ii) 8) = avInt (f (0 + ii) 8),
 avInt (f (0 + ii) 9) = avInt (f (0 + ii) 9),
 ∀ (k : List Int), setKey (setKey M [hSlot (hUn (avInt (f (0 + ii) 9))), rGen (hUn (avInt (f (0 + ii) 9))), 0] (some (mval M [hSlot (hUn (avInt (f (0 + ii) 9))), rGen (hUn (avInt (f (0 + ii) 9))), 0]))) [hSlot (hUn (avInt (f (0 + ii) 9))), rGen (hUn (avInt (f (0 + ii) 9))), 0] (some (IntKind.i64.wrap (mget M [hSlot (hUn (avInt (f (0 + ii) 9))), rGen (hUn (avInt (f (0 + ii) 9))), 0] + 1))) k = setKey (setKey M [hSlot (hUn (avInt (f (0 + ii) 9))), rGen (hUn (avInt (f (0 + ii) 9))), 0] (some (mval M [hSlot (hUn (avInt (f (0 + ii) 9))), rGen (hUn (avInt (f (0 + ii) 9))), 0]))) [hSlot (hUn (avInt (f (0 + ii) 9))), rGen (hUn (avInt (f (0 + ii) 9))), 0] (some (IntKind.i64.wrap (mget M [hSlot (hUn (avInt (f (0 + ii) 9))), rGen (hUn (avInt (f (0 + ii) 9))), 0] + 1))) k,
 true = true,
 (1 : Nat) ≤ (1 : Nat),
 tabF tab = tabF tab ∧ plainSh (List.map kindOfV tab) = true ∨ ∀ (i : Nat), i < 1 → rowOb (List.map kindOfV tab) 0 (tabF tab i) (tabF tab i),
 true = true,
 m ≤ m,
 f = f ∧ plainSh [CK.int IntKind.u64, CK.int IntKind.u64, CK.int IntKind.u64, CK.int IntKind.u64, CK.int IntKind.u64, CK.int IntKind.u64, CK.int IntKind.u64, CK.int IntKind.u64, CK.int IntKind.u64, CK.int IntKind.u64] = true ∨ ∀ (i : Nat), i < m → rowOb [CK.int IntKind.u64, CK.int IntKind.u64, CK.int IntKind.u64, CK.int IntKind.u64, CK.int IntKind.u64, CK.int IntKind.u64, CK.int IntKind.u64, CK.int IntKind.u64, CK.int IntKind.u64, CK.int IntKind.u64] 0 (f i) (f i)]) := by kernel_rfl
theorem hnc2_1 (m : Nat) (f : Nat → Nat → AV) (ii : Nat) (M : List Int → Option Int) : castSt ((hnS m f ii M 2).hp) [] (hnC m f ii M 3 (hSlot (hUn (avInt (f (0 + ii) 9)))) (rGen (hUn (avInt (f (0 + ii) 9)))) (mget M [hSlot (hUn (avInt (f (0 + ii) 9))), rGen (hUn (avInt (f (0 + ii) 9))), 0])) (hnS m f ii (hAdd M (avInt (f (0 + ii) 9))) 3) =
 some ([(0 : Nat) = 0,
 m = m,
 (none : Option Nat) = none,
 Int.ofNat m = Int.ofNat m,
 Int.ofNat ii = Int.ofNat ii,
 avInt (f (0 + ii) 7) = avInt (f (0 + ii) 7),
 avInt (f (0 + ii) 8) = avInt (f (0 + ii) 8),
 avInt (f (0 + ii) 9) = avInt (f (0 + ii) 9),
 avInt (f (0 + ii) 0) = avInt (f (0 + ii) 0),
 avInt (f (0 + ii) 1) = avInt (f (0 + ii) 1),
 avInt (f (0 + ii) 2) = avInt (f (0 + ii) 2),
 avInt (f (0 + ii) 3) = avInt (f (0 + ii) 3),
 avInt (f (0 + ii) 4) = avInt (f (0 + ii) 4),
 avInt (f (0 + ii) 5) = avInt (f (0 + ii) 5),
 avInt (f (0 + ii) 6) = avInt (f (0 + ii) 6),
 avInt (f (0 + ii) 7) = avInt (f (0 + ii) 7),
 avInt (f (0 + ii) 8) = avInt (f (0 + ii) 8),
 avInt (f (0 + ii) 9) = avInt (f (0 + ii) 9),
 ∀ (k : List Int), setKey (setKey M [hSlot (hUn (avInt (f (0 + ii) 9))), rGen (hUn (avInt (f (0 + ii) 9))), 0] (some (mval M [hSlot (hUn (avInt (f (0 + ii) 9))), rGen (hUn (avInt (f (0 + ii) 9))), 0]))) [hSlot (hUn (avInt (f (0 + ii) 9))), rGen (hUn (avInt (f (0 + ii) 9))), 0] (some (IntKind.i64.wrap (mget M [hSlot (hUn (avInt (f (0 + ii) 9))), rGen (hUn (avInt (f (0 + ii) 9))), 0] + 1))) k = hAdd M (avInt (f (0 + ii) 9)) k,
 true = true,
 (1 : Nat) ≤ (1 : Nat),
 tabF tab = tabF tab ∧ plainSh (List.map kindOfV tab) = true ∨ ∀ (i : Nat), i < 1 → rowOb (List.map kindOfV tab) 0 (tabF tab i) (tabF tab i),
 true = true,
 m ≤ m,
 f = f ∧ plainSh [CK.int IntKind.u64, CK.int IntKind.u64, CK.int IntKind.u64, CK.int IntKind.u64, CK.int IntKind.u64, CK.int IntKind.u64, CK.int IntKind.u64, CK.int IntKind.u64, CK.int IntKind.u64, CK.int IntKind.u64] = true ∨ ∀ (i : Nat), i < m → rowOb [CK.int IntKind.u64, CK.int IntKind.u64, CK.int IntKind.u64, CK.int IntKind.u64, CK.int IntKind.u64, CK.int IntKind.u64, CK.int IntKind.u64, CK.int IntKind.u64, CK.int IntKind.u64, CK.int IntKind.u64] 0 (f i) (f i)]) := by kernel_rfl
theorem hnT2 (m : Nat) (f : Nat → Nat → AV) (ii : Nat) (M : List Int → Option Int) (hw0 : 0 ≤ (avInt (f (0 + ii) 9))) (hw1 : (avInt (f (0 + ii) 9)) < 18446744073709551616) : CodeHolds Tryd.prog hnL (hnS m f ii M 2) .norm (hnS m f ii (hAdd M (avInt (f (0 + ii) 9))) 3) := by
  have hu0 : 0 ≤ hUn (avInt (f (0 + ii) 9)) := by unfold hUn; omega
  have hu1 : hUn (avInt (f (0 + ii) 9)) < 9223372036854775808 := by unfold hUn; omega
  by_cases c : (hSlot (hUn (avInt (f (0 + ii) 9)))) ≥ 0
  · have hc : decide ((hSlot (hUn (avInt (f (0 + ii) 9)))) ≥ 0) = true := decide_eq_true c
    have hmap : ∀ kx, setKey (setKey M [(hSlot (hUn (avInt (f (0 + ii) 9)))), (rGen (hUn (avInt (f (0 + ii) 9)))), 0] (some (mval M [(hSlot (hUn (avInt (f (0 + ii) 9)))), (rGen (hUn (avInt (f (0 + ii) 9)))), 0]))) [(hSlot (hUn (avInt (f (0 + ii) 9)))), (rGen (hUn (avInt (f (0 + ii) 9)))), 0] (some (IntKind.i64.wrap (mget M [(hSlot (hUn (avInt (f (0 + ii) 9)))), (rGen (hUn (avInt (f (0 + ii) 9)))), 0] + 1))) kx = hAdd M (avInt (f (0 + ii) 9)) kx := fun kx => by
      rw [hAdd_y c]; unfold setKey; split <;> rfl
    have h4 : CodeHolds Tryd.prog hnR11 (hnB m f ii M 2 (hSlot (hUn (avInt (f (0 + ii) 9)))) (rGen (hUn (avInt (f (0 + ii) 9)))) (mget M [(hSlot (hUn (avInt (f (0 + ii) 9)))), (rGen (hUn (avInt (f (0 + ii) 9)))), 0])) .norm (hnC m f ii M 3 (hSlot (hUn (avInt (f (0 + ii) 9)))) (rGen (hUn (avInt (f (0 + ii) 9)))) (mget M [(hSlot (hUn (avInt (f (0 + ii) 9)))), (rGen (hUn (avInt (f (0 + ii) 9)))), 0])) := by
      refine code_of EHm_ok (hnr2_1 m f ii M) (ob_cons rfl (ob_cons rfl (ob_cons rfl (ob_cons rfl (ob_cons rfl (ob_cons rfl (ob_cons rfl (ob_cons rfl (ob_cons rfl (ob_cons rfl (ob_cons rfl (ob_cons rfl (ob_cons rfl (ob_cons rfl (ob_cons rfl (ob_cons rfl (ob_cons rfl (ob_cons rfl (ob_cons rfl (ob_cons rfl (ob_cons rfl (ob_cons (fun _ => rfl) (ob_cons rfl (ob_cons (Nat.le_refl _) (ob_cons (.inl ⟨rfl, rfl⟩) (ob_cons rfl (ob_cons (Nat.le_refl _) (ob_cons (.inl ⟨rfl, rfl⟩) ob_nil)))))))))))))))))))))))))))) rfl (by show 7 ≤ gnm 0; unfold gnm; omega)
    have h3 : CodeHolds Tryd.prog (.cond (.tmp 27) (.region 10 hnOps true) .skip) (hnA m f ii M 2 (hSlot (hUn (avInt (f (0 + ii) 9)))) (rGen (hUn (avInt (f (0 + ii) 9))))) .norm (hnB m f ii M 2 (hSlot (hUn (avInt (f (0 + ii) 9)))) (rGen (hUn (avInt (f (0 + ii) 9)))) (mget M [(hSlot (hUn (avInt (f (0 + ii) 9)))), (rGen (hUn (avInt (f (0 + ii) 9)))), 0])) := code_condT rfl (hn_reg m f ii M 2 (hSlot (hUn (avInt (f (0 + ii) 9)))) (rGen (hUn (avInt (f (0 + ii) 9)))))
    have h2 : CodeHolds Tryd.prog (seqs [hnR7, hnR8, hnR9] (.cond (.tmp 27) (.region 10 hnOps true) .skip)) (hnS m f ii M 2) .norm (hnB m f ii M 2 (hSlot (hUn (avInt (f (0 + ii) 9)))) (rGen (hUn (avInt (f (0 + ii) 9)))) (mget M [(hSlot (hUn (avInt (f (0 + ii) 9)))), (rGen (hUn (avInt (f (0 + ii) 9)))), 0])) := by
      have h2' := h3
      refine code_pre EHm_ok (hnq2_1 m f ii M) (ob_cons rfl (ob_cons rfl (ob_cons rfl (ob_cons rfl (ob_cons rfl (ob_cons rfl (ob_cons rfl (ob_cons rfl (ob_cons rfl (ob_cons rfl (ob_cons ?_ (ob_cons rfl (ob_cons rfl (ob_cons rfl (ob_cons rfl (ob_cons rfl (ob_cons rfl (ob_cons rfl (ob_cons rfl (ob_cons rfl (ob_cons rfl (ob_cons rfl (ob_cons rfl (ob_cons rfl (ob_cons (fun _ => rfl) (ob_cons rfl (ob_cons (Nat.le_refl _) (ob_cons (.inl ⟨rfl, rfl⟩) (ob_cons rfl (ob_cons (Nat.le_refl _) (ob_cons (.inl ⟨rfl, rfl⟩) (ob_cons (tabIs_self _) (ob_cons ?_ (ob_cons ?_ (ob_cons (tabIs_self _) (ob_cons ?_ (ob_cons ?_ ob_nil))))))))))))))))))))))))))))))))))))) rfl h3 ⟨fun p hp => (by cases hp), by show 5 ≤ 6; decide, rfl, subB_get _ rfl⟩ ⟨fun p hp => (by cases hp), by show 6 ≤ 7; decide, rfl, subB_get _ rfl⟩
      ·
        first | with_reducible assumption | exact rfl | exact tabIs_self _ | exact hw0 | exact hw1 | exact hu0 | exact hu1 | exact hc | exact hmap | exact .inl ⟨rfl, rfl⟩ | exact fun _ => rfl | (simp; done) | (simp; omega) | omega | (apply Nat.ble_eq_true_of_le; omega) | (simp [Nat.blt_eq]; omega)
      ·
        first | with_reducible assumption | exact rfl | exact tabIs_self _ | exact hw0 | exact hw1 | exact hu0 | exact hu1 | exact hc | exact hmap | exact .inl ⟨rfl, rfl⟩ | exact fun _ => rfl | (simp; done) | (simp; omega) | omega | exact Nat.le_refl _ | omega
      ·
        first | with_reducible assumption | exact rfl | exact tabIs_self _ | exact hw0 | exact hw1 | exact hu0 | exact hu1 | exact hc | exact hmap | exact .inl ⟨rfl, rfl⟩ | exact fun _ => rfl | (simp; done) | (simp; omega) | omega | omega
      ·
        first | with_reducible assumption | exact rfl | exact tabIs_self _ | exact hw0 | exact hw1 | exact hu0 | exact hu1 | exact hc | exact hmap | exact .inl ⟨rfl, rfl⟩ | exact fun _ => rfl | (simp; done) | (simp; omega) | omega | exact Nat.le_refl _ | omega
      ·
        first | with_reducible assumption | exact rfl | exact tabIs_self _ | exact hw0 | exact hw1 | exact hu0 | exact hu1 | exact hc | exact hmap | exact .inl ⟨rfl, rfl⟩ | exact fun _ => rfl | (simp; done) | (simp; omega) | omega | omega
    have h1 : CodeHolds Tryd.prog (.seq (.block 3 (seqs [hnR7, hnR8, hnR9] (.cond (.tmp 27) (.region 10 hnOps true) .skip))) hnR11) (hnS m f ii M 2) .norm (hnC m f ii M 3 (hSlot (hUn (avInt (f (0 + ii) 9)))) (rGen (hUn (avInt (f (0 + ii) 9)))) (mget M [(hSlot (hUn (avInt (f (0 + ii) 9)))), (rGen (hUn (avInt (f (0 + ii) 9)))), 0])) :=
      code_seq (code_blockN h2) h4 ⟨fun p hp => (by cases hp), by show 5 ≤ 7; decide, rfl, subB_get _ rfl⟩ ⟨fun p hp => (by cases hp), Nat.le_refl 7, rfl, subB_get _ rfl⟩
    have h5 : CodeHolds Tryd.prog hnL (hnS m f ii M 2) .norm (hnC m f ii M 3 (hSlot (hUn (avInt (f (0 + ii) 9)))) (rGen (hUn (avInt (f (0 + ii) 9)))) (mget M [(hSlot (hUn (avInt (f (0 + ii) 9)))), (rGen (hUn (avInt (f (0 + ii) 9)))), 0])) := by
      rw [hnL_eq]
      refine code_pre EHm_ok (hnp2_1 m f ii M) (ob_cons rfl (ob_cons rfl (ob_cons rfl (ob_cons rfl (ob_cons rfl (ob_cons rfl (ob_cons rfl (ob_cons rfl (ob_cons rfl (ob_cons rfl (ob_cons rfl (ob_cons rfl (ob_cons rfl (ob_cons rfl (ob_cons rfl (ob_cons rfl (ob_cons rfl (ob_cons rfl (ob_cons (fun _ => rfl) (ob_cons rfl (ob_cons (Nat.le_refl _) (ob_cons (.inl ⟨rfl, rfl⟩) (ob_cons rfl (ob_cons (Nat.le_refl _) (ob_cons (.inl ⟨rfl, rfl⟩) ob_nil))))))))))))))))))))))))) rfl h1 ⟨fun p hp => (by cases hp), Nat.le_refl _, rfl, fun n hn => hn⟩ ⟨fun p hp => (by cases hp), by show 5 ≤ 7; decide, rfl, subB_get _ rfl⟩
    refine code_cast h5 (hnc2_1 m f ii M) (ob_cons rfl (ob_cons rfl (ob_cons rfl (ob_cons rfl (ob_cons rfl (ob_cons rfl (ob_cons rfl (ob_cons rfl (ob_cons rfl (ob_cons rfl (ob_cons rfl (ob_cons rfl (ob_cons rfl (ob_cons rfl (ob_cons rfl (ob_cons rfl (ob_cons rfl (ob_cons rfl (ob_cons ?_ (ob_cons rfl (ob_cons (Nat.le_refl _) (ob_cons (.inl ⟨rfl, rfl⟩) (ob_cons rfl (ob_cons (Nat.le_refl _) (ob_cons (.inl ⟨rfl, rfl⟩) ob_nil))))))))))))))))))))))))) rfl
    ·
      first | with_reducible assumption | exact rfl | exact tabIs_self _ | exact hw0 | exact hw1 | exact hu0 | exact hu1 | exact hc | exact hmap | exact .inl ⟨rfl, rfl⟩ | exact fun _ => rfl | (simp; done) | (simp; omega) | omega | exact fun _ => rfl
  · have hc : decide ((hSlot (hUn (avInt (f (0 + ii) 9)))) ≥ 0) = false := decide_eq_false c
    have hmap : ∀ kx, M kx = hAdd M (avInt (f (0 + ii) 9)) kx := fun kx => by rw [hAdd_n c]
    refine code_of EHm_ok (hnf2_1 m f ii M) (ob_cons rfl (ob_cons rfl (ob_cons rfl (ob_cons rfl (ob_cons rfl (ob_cons rfl (ob_cons rfl (ob_cons rfl (ob_cons rfl (ob_cons rfl (ob_cons rfl (ob_cons rfl (ob_cons rfl (ob_cons rfl (ob_cons rfl (ob_cons rfl (ob_cons rfl (ob_cons rfl (ob_cons ?_ (ob_cons rfl (ob_cons (Nat.le_refl _) (ob_cons (.inl ⟨rfl, rfl⟩) (ob_cons rfl (ob_cons (Nat.le_refl _) (ob_cons (.inl ⟨rfl, rfl⟩) (ob_cons ?_ (ob_cons (tabIs_self _) (ob_cons ?_ (ob_cons ?_ (ob_cons (tabIs_self _) (ob_cons ?_ (ob_cons ?_ ob_nil)))))))))))))))))))))))))))))))) rfl (by show 5 ≤ gnm 0; unfold gnm; omega)
    ·
      first | with_reducible assumption | exact rfl | exact tabIs_self _ | exact hw0 | exact hw1 | exact hu0 | exact hu1 | exact hc | exact hmap | exact .inl ⟨rfl, rfl⟩ | exact fun _ => rfl | (simp; done) | (simp; omega) | omega | exact fun _ => rfl
    ·
      first | with_reducible assumption | exact rfl | exact tabIs_self _ | exact hw0 | exact hw1 | exact hu0 | exact hu1 | exact hc | exact hmap | exact .inl ⟨rfl, rfl⟩ | exact fun _ => rfl | (simp; done) | (simp; omega) | omega | (apply Nat.ble_eq_true_of_le; omega) | (simp [Nat.blt_eq]; omega)
    ·
      first | with_reducible assumption | exact rfl | exact tabIs_self _ | exact hw0 | exact hw1 | exact hu0 | exact hu1 | exact hc | exact hmap | exact .inl ⟨rfl, rfl⟩ | exact fun _ => rfl | (simp; done) | (simp; omega) | omega | exact Nat.le_refl _ | omega
    ·
      first | with_reducible assumption | exact rfl | exact tabIs_self _ | exact hw0 | exact hw1 | exact hu0 | exact hu1 | exact hc | exact hmap | exact .inl ⟨rfl, rfl⟩ | exact fun _ => rfl | (simp; done) | (simp; omega) | omega | omega
    ·
      first | with_reducible assumption | exact rfl | exact tabIs_self _ | exact hw0 | exact hw1 | exact hu0 | exact hu1 | exact hc | exact hmap | exact .inl ⟨rfl, rfl⟩ | exact fun _ => rfl | (simp; done) | (simp; omega) | omega | exact Nat.le_refl _ | omega
    ·
      first | with_reducible assumption | exact rfl | exact tabIs_self _ | exact hw0 | exact hw1 | exact hu0 | exact hu1 | exact hc | exact hmap | exact .inl ⟨rfl, rfl⟩ | exact fun _ => rfl | (simp; done) | (simp; omega) | omega | omega
end Go.Proofs.YtljeiencnpnbkaaDoor
