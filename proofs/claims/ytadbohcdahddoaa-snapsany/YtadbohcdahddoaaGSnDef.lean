/-
  Snapshots: Steps: definitions.
-/
import Derived.Test.YtadbohcdahddoaaEvLaw
import Derived.Test.YtadbohcdahddoaaGBeg
set_option linter.unusedSimpArgs false
set_option linter.unusedVariables false
namespace Go.Proofs.Ytadbohcdahddoaa
open Go.Ev

def tSh : List CK := [.int .u64, .int .u64, .int .u64, .int .u64, .int .u64, .int .u64, .int .u64, .int .u64, .int .u64, .int .u64]
def stN (g : Nat → Nat → AV) : Nat → Int
  | 0 => 1
  | k + 1 => if avInt (g (0 + k) 0) = 0 then stN g k + 1 else stN g k + 10
theorem stN_b (g : Nat → Nat → AV) : ∀ k, 1 ≤ stN g k ∧ stN g k ≤ 1 + 10 * k
  | 0 => ⟨by simp [stN], by simp [stN]⟩
  | k + 1 => by
    have := stN_b g k
    simp only [stN]
    split <;> omega
theorem l14_run : (callF EM0 8000 38 [] ⟨[], 0, gnm 0, [], [], [], true⟩).map (fun x => (x.1, x.2.ob)) = some (.symb true, []) := by kernel_rfl
noncomputable def l14Spec : LSpec := fun la lh => match la, lh with
  | [], [] => some ⟨0, .bool true, [], 0, [], []⟩
  | _, _ => none
theorem l14Spec_ok (la : List AV) (lh : List (Nat × AO)) (R : LR) (h : l14Spec la lh = some R) : LocOk Try.prog 38 la lh R := by
  unfold l14Spec at h
  split at h
  · cases h; exact lives_of_run_s EM0_ok l14_run
  · cases h

noncomputable def sstU (n l : Nat) (r : Bool) (g : Nat → Nat → AV) (e : Int) : St := ⟨[.top, .ptr 2 0 0, .top, .int .i64 1, .top, .top, .top, .ss 10 1 0 n none, .sym .i64 (Int.ofNat n), .int .i64 0] ++ List.replicate 12 .top, ⟨[(2, .cells 2 [.ss 10 1 0 n none, .sym .u64 e]), (1, .arr 10 tSh r l g)], 3, gnm 0, [], [], [], false⟩⟩
noncomputable def sstT (n l : Nat) (r : Bool) (g : Nat → Nat → AV) (e : Int) (i : Nat) : St := ⟨[.top, .ptr 2 0 0, .top, .sym .i64 (stN g i), .top, .top, .top, .ss 10 1 0 n none, .sym .i64 (Int.ofNat n), .sym .i64 (Int.ofNat i)] ++ List.replicate 12 .top, ⟨[(2, .cells 2 [.ss 10 1 0 n none, .sym .u64 e]), (1, .arr 10 tSh r l g)], 3, gnm 0, [], [], [], false⟩⟩
noncomputable def sstX (n l : Nat) (r : Bool) (g : Nat → Nat → AV) (e : Int) (i : Nat) : St := ⟨[.top, .top, .top, .sym .i64 (stN g i)] ++ List.replicate 18 .top, ⟨[(2, .cells 2 [.ss 10 1 0 n none, .sym .u64 e]), (1, .arr 10 tSh r l g)], 3, gnm 0, [], [], [], false⟩⟩
noncomputable abbrev sstL : Code := loopAt Try.prog 46 0
noncomputable def sstLP (n l : Nat) (r : Bool) (g : Nat → Nat → AV) (e : Int) : Prop := LoopHolds Try.prog sstL (sstU n l r g e) (.exit 0) (sstX n l r g e n)
noncomputable def rst14U (n l : Nat) (r : Bool) (g : Nat → Nat → AV) (e : Int) : St := ⟨[.top, .ptr 2 0 0, .top, .int .i64 1, .int .i64 0] ++ List.replicate 19 .top, ⟨[(2, .cells 2 [.ss 10 1 0 n none, .sym .u64 e]), (1, .arr 10 tSh r l g)], 3, gnm 0, [], [], [], false⟩⟩
noncomputable def rst14T (n l : Nat) (r : Bool) (g : Nat → Nat → AV) (e : Int) (i : Nat) : St := ⟨[.top, .ptr 2 0 0, .top, .sym .i64 (stN g i), .sym .i64 (Int.ofNat i)] ++ List.replicate 19 .top, ⟨[(2, .cells 2 [.ss 10 1 0 n none, .sym .u64 e]), (1, .arr 10 tSh r l g)], 3, gnm 0, [], [], [], false⟩⟩
noncomputable def rst14X (n l : Nat) (r : Bool) (g : Nat → Nat → AV) (e : Int) (i : Nat) : St := ⟨[.top, .top, .top, .sym .i64 (stN g i)] ++ List.replicate 20 .top, ⟨[(2, .cells 2 [.ss 10 1 0 n none, .sym .u64 e]), (1, .arr 10 tSh r l g)], 3, gnm 0, [], [], [], false⟩⟩
noncomputable abbrev rst14L : Code := loopAt Try.prog 47 0
noncomputable def rst14LP (n l : Nat) (r : Bool) (g : Nat → Nat → AV) (e : Int) : Prop := LoopHolds Try.prog rst14L (rst14U n l r g e) (.exit 0) (rst14X n l r g e n)
noncomputable def ssnH (n l : Nat) (r : Bool) (g : Nat → Nat → AV) (e : Int) : List (Nat × AO) := [(1, .arr 10 tSh r l g)]
noncomputable def ssnR (n l : Nat) (r : Bool) (g : Nat → Nat → AV) (e : Int) : LR := ⟨1, .sym .i64 (stN g n), [(1, .arr 10 tSh r l g)], 0, [], [n ≤ l, n ≤ 100000]⟩
noncomputable def rsnH (n l : Nat) (r : Bool) (g : Nat → Nat → AV) (e : Int) : List (Nat × AO) := [(1, .arr 10 tSh r l g)]
noncomputable def rsnR (n l : Nat) (r : Bool) (g : Nat → Nat → AV) (e : Int) : LR := ⟨1, .sym .i64 (stN g n), [(1, .arr 10 tSh r l g)], 0, [], [n ≤ l, n ≤ 100000]⟩
end Go.Proofs.Ytadbohcdahddoaa
