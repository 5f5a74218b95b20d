/-
  Snapshots: Steps: definitions.
-/
import Derived.Test.YtmlfmmnnbdlabaaNTkDef
set_option linter.unusedSimpArgs false
set_option linter.unusedVariables false
namespace Go.Proofs.Ytmlfmmnnbdlabaa
open Go.Ev
def stN (g : Nat → Nat → AV) : Nat → Int
  | 0 => 1
  | k + 1 => if avInt (g (0 + k) 0) = 0 then stN g k + 1 else stN g k + 10
theorem stN_b (g : Nat → Nat → AV) : ∀ k, 1 ≤ stN g k ∧ stN g k ≤ 1 + 10 * k
  | 0 => ⟨by simp [stN], by simp [stN]⟩
  | k + 1 => by
    have := stN_b g k
    simp only [stN]
    split <;> omega

noncomputable def sstU (n l : Nat) (cc : Option Nat) (r : Bool) (g : Nat → Nat → AV) (e : Int) : St := ⟨[.top, .ptr 2 0 0, .top, .int .i64 1, .top, .top, .top, .ss 10 1 0 n cc, .sym .i64 (Int.ofNat n), .int .i64 0] ++ List.replicate 12 .top, ⟨[(2, .cells 2 [.ss 10 1 0 n cc, .sym .u64 e]), (1, .arr 10 tSh r l g)], 3, gnm 0, [], [], [], false⟩⟩
noncomputable def sstT (n l : Nat) (cc : Option Nat) (r : Bool) (g : Nat → Nat → AV) (e : Int) (i : Nat) : St := ⟨[.top, .ptr 2 0 0, .top, .sym .i64 (stN g i), .top, .top, .top, .ss 10 1 0 n cc, .sym .i64 (Int.ofNat n), .sym .i64 (Int.ofNat i)] ++ List.replicate 12 .top, ⟨[(2, .cells 2 [.ss 10 1 0 n cc, .sym .u64 e]), (1, .arr 10 tSh r l g)], 3, gnm 0, [], [], [], false⟩⟩
noncomputable def sstX (n l : Nat) (cc : Option Nat) (r : Bool) (g : Nat → Nat → AV) (e : Int) (i : Nat) : St := ⟨[.top, .top, .top, .sym .i64 (stN g i)] ++ List.replicate 18 .top, ⟨[(2, .cells 2 [.ss 10 1 0 n cc, .sym .u64 e]), (1, .arr 10 tSh r l g)], 3, gnm 0, [], [], [], false⟩⟩
noncomputable abbrev sstL : Code := loopAt Try.prog 42 0
noncomputable def sstLP (n l : Nat) (cc : Option Nat) (r : Bool) (g : Nat → Nat → AV) (e : Int) : Prop := LoopHolds Try.prog sstL (sstU n l cc r g e) (.exit 0) (sstX n l cc r g e n)
noncomputable def ssnH (n l : Nat) (cc : Option Nat) (r : Bool) (g : Nat → Nat → AV) (e : Int) : List (Nat × AO) := [(1, .arr 10 tSh r l g)]
noncomputable def ssnR (n l : Nat) (cc : Option Nat) (r : Bool) (g : Nat → Nat → AV) (e : Int) : LR := ⟨1, .sym .i64 (stN g n), [(1, .arr 10 tSh r l g)], 0, [], [n ≤ l, n ≤ 100000]⟩
end Go.Proofs.Ytmlfmmnnbdlabaa
