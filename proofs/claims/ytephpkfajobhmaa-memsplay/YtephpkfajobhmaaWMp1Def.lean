/-
  MemsPlay: the loop: definitions.
-/
import Derived.Test.YtephpkfajobhmaaWMp0
set_option linter.unusedSimpArgs false
set_option linter.unusedVariables false
namespace Go.Proofs.Ytephpkfajobhmaa
open Go.Ev
noncomputable def EMp : Env := envG Try.prog ((29, locSP pstSpec) :: (31, locSP smeSpec) :: (20, locSP wdsSpec) :: memSP)
theorem EMp_ok : EnvOk EMp := envG_ok mgood ⟨locSP_ok pstSpec_ok, locSP_ok smeSpec_ok, locSP_ok wdsSpec_ok, memSP_ok⟩
theorem bneF {α : Type} [BEq α] [LawfulBEq α] {a b : α} (h : a = b) : (a != b) = false := by subst h; simp
theorem eqFF {a b : Bool} (h : a = b) : ((a == b) == false) = false := by subst h; cases a <;> rfl
def mpStep (r : Nat → AV) (x : MS × RS) : MS × RS :=
  if (avInt (r 0)).tmod 4 = 0 then (mLoad x.1 (avInt (r 1)) (avInt (r 2)) (avInt (r 3)), rLoad x.2 (avInt (r 1)) (avInt (r 2)) (avInt (r 3)))
  else if (avInt (r 0)).tmod 4 = 1 then (mStore x.1 (avInt (r 1)) (avInt (r 2)) (avInt (r 3)) (avInt (r 5)), rStore x.2 (avInt (r 1)) (avInt (r 2)) (avInt (r 3)) (avInt (r 5)))
  else if (avInt (r 0)).tmod 4 = 2 then
    (if avBool (r 6) = true then (mCas x.1 (avInt (r 1)) (avInt (r 2)) (avInt (r 3)) (dWord x.2.D (avInt (r 1)) (avInt (r 2)) (avInt (r 3))) (avInt (r 5)), rCas x.2 (avInt (r 1)) (avInt (r 2)) (avInt (r 3)) (dWord x.2.D (avInt (r 1)) (avInt (r 2)) (avInt (r 3))) (avInt (r 5)))
     else (mCas x.1 (avInt (r 1)) (avInt (r 2)) (avInt (r 3)) (avInt (r 4)) (avInt (r 5)), rCas x.2 (avInt (r 1)) (avInt (r 2)) (avInt (r 3)) (avInt (r 4)) (avInt (r 5))))
  else x
def mpN (f : Nat → Nat → AV) : Nat → MS × RS
  | 0 => (ms0, rs0)
  | n + 1 => mpStep (f n) (mpN f n)
theorem mpStep_fine {r : Nat → AV} {x : MS × RS} {n : Nat} (h : Fine x.1 x.2 n) : Fine (mpStep r x).1 (mpStep r x).2 (n + 1) := by
  unfold mpStep
  repeat' split
  · exact (h.load ..).mono (by omega)
  · exact h.store ..
  · exact h.cas ..
  · exact h.cas ..
  · exact h.mono (by omega)
theorem mpN_fine (f : Nat → Nat → AV) : ∀ n, Fine (mpN f n).1 (mpN f n).2 n
  | 0 => Fine.nil
  | n + 1 => mpStep_fine (mpN_fine f n)

noncomputable def mpU (m : Nat) (f : Nat → Nat → AV) : St := ⟨[.ss 7 1 0 m none, .top, .top, .ptr 7 0 0, .int .i64 0] ++ List.replicate 100 .top, ⟨[(7, .cells 2 [.ptr 4 0 0, .ptr 5 0 0]), (6, .cells 2 [.ptr 4 0 0, .ptr 5 0 0]), (5, .cells 9 (.nils :: bg0)), (4, .cells 9 (.map 3 :: bg0)), (3, .map 26 (fun _ => none)), (2, .cells 2 [.ptr 4 0 0, .ptr 5 0 0]), (1, .arr 7 aSh true m f)], 8, gnm 0, [], [], [7, 2, 6], false⟩⟩
noncomputable def mpT (m : Nat) (f : Nat → Nat → AV) (i : Nat) (S : MS) (R : RS) : St := ⟨[.ss 7 1 0 m none, .top, .top, .ptr 7 0 0, .sym .i64 (Int.ofNat i)] ++ List.replicate 100 .top, ⟨[(7, .cells 2 [.ptr 4 0 0, .ptr 5 0 0]), (5, .cells 9 (.ss 4 8 0 R.D.n none :: lsL R.st R.L)), (4, .cells 9 (.map 3 :: lsL S.st S.L)), (3, .map 26 S.M), (8, .arr 4 wSh false R.D.n (wdF R.D.W)), (1, .arr 7 aSh true m f)], 9, gnm 0, [], [], [3, 4, 5, 7, 2, 6], false⟩⟩
noncomputable def mpX (m : Nat) (f : Nat → Nat → AV) (S : MS) (R : RS) : St := ⟨[.ss 7 1 0 m none, .top, .top, .ptr 7 0 0] ++ List.replicate 101 .top, ⟨[(7, .cells 2 [.ptr 4 0 0, .ptr 5 0 0]), (5, .cells 9 (.ss 4 8 0 R.D.n none :: lsL R.st R.L)), (4, .cells 9 (.map 3 :: lsL S.st S.L)), (3, .map 26 S.M), (8, .arr 4 wSh false R.D.n (wdF R.D.W)), (1, .arr 7 aSh true m f)], 9, gnm 0, [], [], [3, 4, 5, 7, 2, 6], false⟩⟩
noncomputable abbrev mpL : Code := loopAt Try.prog 5 0
noncomputable def mpLP (m : Nat) (f : Nat → Nat → AV) : Prop := LoopHolds Try.prog mpL (mpU m f) (.exit 0) (mpX m f (mpN f m).1 (mpN f m).2)

end Go.Proofs.Ytephpkfajobhmaa
