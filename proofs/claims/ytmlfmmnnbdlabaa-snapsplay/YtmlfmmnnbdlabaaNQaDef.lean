/-
  Chapter 14: Same: definitions.
-/
import Derived.Test.YtmlfmmnnbdlabaaNTkDef
set_option linter.unusedSimpArgs false
set_option linter.unusedVariables false
namespace Go.Proofs.Ytmlfmmnnbdlabaa
open Go.Ev

noncomputable def samU (n n2 l l2 : Nat) (ca cb : Option Nat) (ra rb : Bool) (g h : Nat → Nat → AV) (va vb : Int) : St := ⟨[.top, .top, .ptr 3 0 0, .ptr 4 0 0, .top, .int .i64 0] ++ List.replicate 32 .top, ⟨[(4, .cells 2 [.ss 10 2 0 n2 cb, .sym .u64 vb]), (3, .cells 2 [.ss 10 1 0 n ca, .sym .u64 va]), (1, .arr 10 tSh ra l g), (2, .arr 10 tSh rb l2 h)], 5, gnm 0, [], [], [], false⟩⟩
noncomputable def samT (n n2 l l2 : Nat) (ca cb : Option Nat) (ra rb : Bool) (g h : Nat → Nat → AV) (va vb : Int) (i : Nat) : St := ⟨[.top, .top, .ptr 3 0 0, .ptr 4 0 0, .top, .sym .i64 (Int.ofNat i)] ++ List.replicate 32 .top, ⟨[(4, .cells 2 [.ss 10 2 0 n2 cb, .sym .u64 vb]), (3, .cells 2 [.ss 10 1 0 n ca, .sym .u64 va]), (1, .arr 10 tSh ra l g), (2, .arr 10 tSh rb l2 h)], 5, gnm 0, [], [], [], false⟩⟩
noncomputable def samX (n n2 l l2 : Nat) (ca cb : Option Nat) (ra rb : Bool) (g h : Nat → Nat → AV) (va vb : Int) (i : Nat) : St := ⟨[.top, .top, .ptr 3 0 0, .ptr 4 0 0] ++ List.replicate 34 .top, ⟨[(4, .cells 2 [.ss 10 2 0 n2 cb, .sym .u64 vb]), (3, .cells 2 [.ss 10 1 0 n ca, .sym .u64 va]), (1, .arr 10 tSh ra l g), (2, .arr 10 tSh rb l2 h)], 5, gnm 0, [], [], [], false⟩⟩
noncomputable abbrev samL : Code := loopAt Try.prog 39 0
noncomputable def samLP (n n2 l l2 : Nat) (ca cb : Option Nat) (ra rb : Bool) (g h : Nat → Nat → AV) (va vb : Int) : Prop := LoopHolds Try.prog samL (samU n n2 l l2 ca cb ra rb g h va vb) (.exit 0) (samX n n2 l l2 ca cb ra rb g h va vb n)
noncomputable def smsH (n n2 l l2 : Nat) (ca cb : Option Nat) (ra rb : Bool) (g h : Nat → Nat → AV) (va vb : Int) : List (Nat × AO) := [(1, .arr 10 tSh ra l g), (2, .arr 10 tSh rb l2 h)]
noncomputable def smsR (n n2 l l2 : Nat) (ca cb : Option Nat) (ra rb : Bool) (g h : Nat → Nat → AV) (va vb : Int) : LR := ⟨2, .bool true, [(1, .arr 10 tSh ra l g), (2, .arr 10 tSh rb l2 h)], 0, [], [n = n2, va = vb, n ≤ l, n ≤ l2, n ≤ 100000, ∀ i, i < n → ∀ j, j < 10 → avInt (g i j) = avInt (h i j)]⟩
end Go.Proofs.Ytmlfmmnnbdlabaa
