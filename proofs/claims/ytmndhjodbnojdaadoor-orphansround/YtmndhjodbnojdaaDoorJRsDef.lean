/-
  Same of a pair; spoil: definitions.
-/
import Derived.Test.YtmndhjodbnojdaaDoorJRcDef0
set_option linter.unusedSimpArgs false
set_option linter.unusedVariables false
namespace Go.Proofs.YtmndhjodbnojdaaDoor
open Go.Ev

noncomputable def smeH (S : MS) (n l : Nat) (g : Nat → Nat → AV) (s2 : Int) (L2 : LS) : List (Nat × AO) := [(1, .cells 9 (.map 2 :: lsL S.st S.L)), (2, .map 115 S.M), (3, .cells 9 (.ss 4 4 0 n none :: lsL s2 L2)), (4, .arr 4 wSh false l g)]
noncomputable def smeR (S : MS) (n l : Nat) (g : Nat → Nat → AV) (s2 : Int) (L2 : LS) : LR := ⟨4, .bool true, [(1, .cells 9 (.map 2 :: lsL S.st S.L)), (2, .map 115 S.M), (3, .cells 9 (.ss 4 4 0 n none :: lsL s2 L2)), (4, .arr 4 wSh false l g)], 0, [], [Both S (mkR n g s2 L2)]⟩
def spE : Enty := ⟨0, 0, false, 7777777, 0, 0⟩
def spN (f : Nat → Nat → AV) (i : Nat) : Nat → Enty := fun k => if k < i then spE else yOf (f k)
theorem spN_rows {f : Nat → Nat → AV} {i : Nat} {z : List AV} (hz : z = [.int .i64 0, .int .u32 0, .bool false, .int .u64 7777777, .int .u64 0, .int .u64 0]) (k : Nat) : ∀ j, j < k → rowOb ySh 0 (Ev.upd (yF (spN f i)) (0 + i) 0 z j) (yF (spN f (i + 1)) j) := fun j _ => by
  subst hz
  rw [Nat.zero_add]
  by_cases c : j = i
  · subst c
    refine row_y ?_
    have e : ∀ q, Ev.upd (yF (spN f j)) j 0 [.int .i64 0, .int .u32 0, .bool false, .int .u64 7777777, .int .u64 0, .int .u64 0] j q = (match nth [AV.int .i64 0, .int .u32 0, .bool false, .int .u64 7777777, .int .u64 0, .int .u64 0] q with | some v => v | none => yF (spN f j) j q) := fun q => by
      show (if j = j then (if 0 ≤ q then _ else _) else _) = _
      rw [if_pos rfl, if_pos (Nat.zero_le _)]; rfl
    show yOf (fun q => Ev.upd _ j 0 _ j q) = if j < j + 1 then spE else _
    rw [if_pos (Nat.lt_succ_self _)]
    rw [funext e]
    rfl
  · have e : Ev.upd (yF (spN f i)) i 0 [.int .i64 0, .int .u32 0, .bool false, .int .u64 7777777, .int .u64 0, .int .u64 0] j = yF (spN f i) j := by
      funext q
      show (if j = i then _ else _) = _
      rw [if_neg c]
    rw [e]
    refine row_y ?_
    show spN f i j = spN f (i + 1) j
    unfold spN
    by_cases d : j < i
    · rw [if_pos d, if_pos (by omega)]
    · rw [if_neg d, if_neg (by omega)]
noncomputable def splU (n : Nat) (l : Nat) (f : Nat → Nat → AV) : St := ⟨[.ss 6 1 0 (n - 0) (some (n - 0)), .top, .int .i64 0] ++ List.replicate 14 .top, ⟨[(1, .arr 6 ySh false l f)], 2, gnm 0, [], [], [], false⟩⟩
noncomputable def splT (n : Nat) (l : Nat) (f : Nat → Nat → AV) (i : Nat) : St := ⟨[.ss 6 1 0 n (some n), .top, .sym .i64 (Int.ofNat i)] ++ List.replicate 14 .top, ⟨[(1, .arr 6 ySh false l (yF (spN f i)))], 2, gnm 0, [], [], [1], false⟩⟩
noncomputable def splX (n : Nat) (l : Nat) (f : Nat → Nat → AV) (i : Nat) : St := ⟨[.ss 6 1 0 n (some n)] ++ List.replicate 16 .top, ⟨[(1, .arr 6 ySh false l (yF (spN f i)))], 2, gnm 0, [], [], [1], false⟩⟩
noncomputable abbrev splL : Code := loopAt Tryd.prog 97 0
noncomputable def splLP (n : Nat) (l : Nat) (f : Nat → Nat → AV) : Prop := LoopHolds Tryd.prog splL (splU n l f) (.exit 0) (splX n l f n)
noncomputable def spoH (n : Nat) (c : Nat) (l : Nat) (f : Nat → Nat → AV) : List (Nat × AO) := [(1, .arr 6 ySh false l f)]
noncomputable def spoR (n : Nat) (c : Nat) (l : Nat) (f : Nat → Nat → AV) : LR := ⟨1, .tup [], [(1, .arr 6 ySh false c (yF (fun _ => spE)))], 0, [1], [c ≤ l, c ≤ 1000000, n ≤ c]⟩
end Go.Proofs.YtmndhjodbnojdaaDoor
