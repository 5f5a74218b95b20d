/-
  law18.begin: a memory with an era, and a block whose threads are owned: a contract.
-/
import Derived.Test.YtephpkfajobhmaaWMemC
import Derived.Test.YtephpkfajobhmaaEvOne
set_option linter.unusedSimpArgs false
set_option linter.unusedVariables false
namespace Go.Proofs.Ytephpkfajobhmaa
open Go.Ev
def bg5 (e : Int) : List Int → Option Int := memPut (memPut (memPut (memPut (memPut (fun _ => none) 2 0 0 e) 5 0 0 1) 8 0 0 1) 8 1 0 1) 8 2 0 1
def bgm (e : Int) : List Int → Option Int := memPut (bg5 e) 8 3 0 1
noncomputable def bgnR (e : Int) : LR := ⟨0, .ptr 1 0 0, [(1, .cells 9 [.map 2, .sym .i64 6, .sym .u8 2, .sym .u8 8, .sym .i64 3, .sym .i64 0, .sym .u64 0, .sym .u64 1, .symb false]), (2, .map 26 (bgm e))], 2, [], []⟩
theorem bgn_run (e : Int) : callBA EMC 3000 40 [.sym .u64 e] [] (bgnR e) [(1, Src.nm 2), (2, Src.nm 1)] [] = some [(0 : Nat) = 0, (0 : Nat) = 0, (6 : Int) = 6, (2 : Int) = 2, (8 : Int) = 8, (3 : Int) = 3, (0 : Int) = 0, (0 : Int) = 0, (1 : Int) = 1, false = false, ∀ (k : List Int), bgm e k = bgm e k] := by kernel_rfl
theorem bgn_loc (e : Int) : LocOk Try.prog 40 [.sym .u64 e] [] (bgnR e) := by
  refine loc_of_callA EMC_ok (fun hp => ?_)
  exact ⟨3000, [], _, _, bgn_run e, ob_cons rfl (ob_cons rfl (ob_cons rfl (ob_cons rfl (ob_cons rfl (ob_cons rfl (ob_cons rfl (ob_cons rfl (ob_cons rfl (ob_cons rfl (ob_cons (fun _ => rfl) ob_nil))))))))))⟩
noncomputable def bgnSpec : LSpec := fun la lh => match la, lh with
  | [.sym .u64 e], [] => some (bgnR e)
  | _, _ => none
theorem bgnSpec_ok (la : List AV) (lh : List (Nat × AO)) (R : LR) (h : bgnSpec la lh = some R) : LocOk Try.prog 40 la lh R := by
  unfold bgnSpec at h
  split at h
  · rename_i e
    cases h
    exact bgn_loc e
  · cases h
end Go.Proofs.Ytephpkfajobhmaa
