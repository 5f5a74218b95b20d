/-
  Begin of a pair of memories: definitions.
-/
import Derived.Test.YtmndhjodbnojdaaDoorJPair
set_option linter.unusedSimpArgs false
set_option linter.unusedVariables false
namespace Go.Proofs.YtmndhjodbnojdaaDoor
open Go.Ev

noncomputable def EP1 : Env := envG Tryd.prog ((44, locSP pstSpec) :: memSP)
theorem EP1_ok : EnvOk EP1 := envG_ok mgood ⟨locSP_ok pstSpec_ok, memSP_ok⟩
section
variable (m l : Nat) (r : Bool) (f : Nat → Nat → AV) (W : Nat → Wd)
def bgW (f : Nat → Nat → AV) : Nat → Wd := fun i => wdOf (f i)
noncomputable def bgH : List (Nat × AO) := [(1, .arr 4 wSh r l f)]
def bg0 : List AV := [.int .i64 0, .int .u8 0, .int .u8 0, .int .i64 0, .int .i64 0, .int .u64 0, .int .u64 0, .bool false]
noncomputable def bgU : St := ⟨[.ss 4 1 0 m none, .top, .ptr 2 0 0, .ptr 6 0 0, .int .i64 0] ++ List.replicate 21 .top, ⟨[(6, .cells 2 [.ptr 4 0 0, .ptr 5 0 0]), (5, .cells 9 (.nils :: bg0)), (4, .cells 9 (.map 3 :: bg0)), (3, .map 115 (fun _ => none)), (2, .cells 2 [.nilp, .nilp]), (1, .arr 4 wSh r l f)], 7, gnm 0, [], [], [6], false⟩⟩
def lsL (st : Int) (x : LS) : List AV := .sym .i64 st :: x.l
noncomputable def bgT (i : Nat) (S : MS) (R : RS) : St := ⟨[.ss 4 1 0 m none, .top, .ptr 2 0 0, .ptr 6 0 0, .sym .i64 (Int.ofNat i)] ++ List.replicate 21 .top, ⟨[(6, .cells 2 [.ptr 4 0 0, .ptr 5 0 0]), (5, .cells 9 (.ss 4 7 0 R.D.n none :: lsL R.st R.L)), (4, .cells 9 (.map 3 :: lsL S.st S.L)), (3, .map 115 S.M), (2, .cells 2 [.nilp, .nilp]), (7, .arr 4 wSh false R.D.n (wdF R.D.W)), (1, .arr 4 wSh r m (wdF W))], 8, gnm 0, [], [], [3, 4, 5, 6], false⟩⟩
noncomputable def bgX (S : MS) (R : RS) : St := ⟨[.top, .top, .ptr 2 0 0, .ptr 6 0 0] ++ List.replicate 22 .top, ⟨[(6, .cells 2 [.ptr 4 0 0, .ptr 5 0 0]), (5, .cells 9 (.ss 4 7 0 R.D.n none :: lsL R.st R.L)), (4, .cells 9 (.map 3 :: lsL S.st S.L)), (3, .map 115 S.M), (2, .cells 2 [.nilp, .nilp]), (7, .arr 4 wSh false R.D.n (wdF R.D.W)), (1, .arr 4 wSh r m (wdF W))], 8, gnm 0, [], [], [3, 4, 5, 6], false⟩⟩
noncomputable abbrev lcBg := loopAt Tryd.prog 32 0
noncomputable def bgL (S : MS) (R : RS) : Prop := LoopHolds Tryd.prog lcBg (bgU m l r f) (.exit 0) (bgX m r W S R)
noncomputable def bgR : LR := ⟨1, .agg [.ptr 2 0 0, .ptr 4 0 0], [(2, .cells 9 (.map 3 :: lsL (msN (bgW f) m).st (msN (bgW f) m).L)), (3, .map 115 (msN (bgW f) m).M), (4, .cells 9 (.ss 4 5 0 (rsN (bgW f) m).D.n none :: lsL (rsN (bgW f) m).st (rsN (bgW f) m).L)), (5, .arr 4 wSh false (rsN (bgW f) m).D.n (wdF (rsN (bgW f) m).D.W)), (1, .arr 4 wSh r m (wdF (bgW f)))], 4, [], [m ≤ l, m ≤ 300, ∀ i, i < m → 0 ≤ avInt (f i 0)]⟩
noncomputable def bgF (m : Nat) (r : Bool) (W : Nat → Wd) (i : Nat) : St := bgT m r W i (msN W i) (rsN W i)
end
end Go.Proofs.YtmndhjodbnojdaaDoor
