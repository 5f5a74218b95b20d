/-
  taken: its contract: definitions.
-/
import Derived.Test.YtmndhjodbnojdaaDoorJPt
set_option linter.unusedSimpArgs false
set_option linter.unusedVariables false
namespace Go.Proofs.YtmndhjodbnojdaaDoor
open Go.Ev

noncomputable def tknY : Nat → MS → MS := hide (fun k S => (tkIt S (5 * k + 2)).S)
noncomputable def tknE : Nat → MS → Nat → Enty := hide (fun k S => (tkIt S (5 * k + 2)).E)
theorem tknY_eq (k : Nat) (S : MS) : tknY k S = (tkIt S (5 * k + 2)).S := congrFun (congrFun (hide_eq (fun (k : Nat) (S : MS) => (tkIt S (5 * k + 2)).S)) k) S
theorem tknE_eq (k : Nat) (S : MS) : tknE k S = (tkIt S (5 * k + 2)).E := congrFun (congrFun (hide_eq (fun (k : Nat) (S : MS) => (tkIt S (5 * k + 2)).E)) k) S
/-- A Take by one alone gets k entries in 5 k + 2 steps. -/
theorem notF {b : Bool} (h : b = true) : (!b) = false := by rw [h]; rfl
theorem beq0 {n : Nat} (h : 0 < n) : Nat.beq n 0 = false := by
  cases n with
  | zero => omega
  | succ n => rfl
structure TkAll (kk : Nat) (S : MS) : Prop where
  u : U64 S
  k0 : 0 < kk
  k1 : kk ≤ 1000
  no : ∀ i, 1 ≤ i → i ≤ 5 * kk + 1 → ¬ (tkIt S i).o.ln = 0
  ov : (tkIt S (5 * kk + 2)).o.ln = 0
  n : (tkIt S (5 * kk + 2)).n = kk
structure TkNone (S : MS) : Prop where
  u : U64 S
  c : hSlot (oHd S) < 0

noncomputable def tkcH (t : Int) (S : MS) (kk : Nat) (FT : Nat → Nat → AV) : List (Nat × AO) := [(gnm 0, .arr tab.length (tab.map kindOfV) true 1 FT), (1, .cells 9 (.map 2 :: lsL S.st S.L)), (2, .map 115 S.M)]
noncomputable def tkcR (t : Int) (S : MS) (kk : Nat) (FT : Nat → Nat → AV) : LR := ⟨2, .tup [.ss 6 3 0 kk (some kk), .symb true], [(gnm 0, .arr tab.length (tab.map kindOfV) true 1 FT), (1, .cells 9 (.map 2 :: lsL (tknY kk S).st (tknY kk S).L)), (2, .map 115 (tknY kk S).M), (3, .arr 6 [.int .i64, .int .u32, .bool, .int .u64, .int .u64, .int .u64] false kk (yF (tknE kk S)))], 1, [1, 2], [FT = tabF tab, TkAll kk S, t = Int.ofNat (5 * kk) + 2]⟩
end Go.Proofs.YtmndhjodbnojdaaDoor
