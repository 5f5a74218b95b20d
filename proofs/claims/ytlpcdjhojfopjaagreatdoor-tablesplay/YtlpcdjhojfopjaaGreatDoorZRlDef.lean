/-
  ZRlDef and what follows it.
-/
import Derived.Test.YtlpcdjhojfopjaaGreatDoorZBeg
import Derived.Test.YtlpcdjhojfopjaaGreatDoorZPair
import Derived.Test.YtlpcdjhojfopjaaGreatDoorEvFam
import Derived.Test.YtlpcdjhojfopjaaGreatDoorEvDoor
/-
  less: definitions.
-/
set_option linter.unusedSimpArgs false
set_option linter.unusedVariables false
namespace Go.Proofs.YtlpcdjhojfopjaaGreatDoor
open Go.Ev

noncomputable def rlsH (k a f k2 a2 f2 : Int) : List (Nat × AO) := []
noncomputable def rlsR (k a f k2 a2 f2 : Int) : LR := ⟨0, .symb (ltB (k, a, f) (k2, a2, f2)), [], 0, [], []⟩
end Go.Proofs.YtlpcdjhojfopjaaGreatDoor

/-
  less.
-/
set_option linter.unusedSimpArgs false
set_option linter.unusedVariables false
namespace Go.Proofs.YtlpcdjhojfopjaaGreatDoor
open Go.Ev
theorem rls_1 (k a f k2 a2 f2 : Int) : callB EM0 2000 159 [AV.agg [AV.sym IntKind.u8 k, AV.sym IntKind.i64 a, AV.sym IntKind.i64 f], AV.agg [AV.sym IntKind.u8 k2, AV.sym IntKind.i64 a2, AV.sym IntKind.i64 f2]] (rlsH k a f k2 a2 f2) (rlsR k a f k2 a2 f2) [] [Hint.b true] =
 some ([decide (k < k2) = ltB (k, a, f) (k2, a2, f2),
 (k != k2) = true]) := by kernel_rfl
theorem rls_2 (k a f k2 a2 f2 : Int) : callB EM0 2000 159 [AV.agg [AV.sym IntKind.u8 k, AV.sym IntKind.i64 a, AV.sym IntKind.i64 f], AV.agg [AV.sym IntKind.u8 k2, AV.sym IntKind.i64 a2, AV.sym IntKind.i64 f2]] (rlsH k a f k2 a2 f2) (rlsR k a f k2 a2 f2) [] [Hint.b false, Hint.b true] =
 some ([decide (a < a2) = ltB (k, a, f) (k2, a2, f2),
 (a != a2) = true,
 (k != k2) = false]) := by kernel_rfl
theorem rls_3 (k a f k2 a2 f2 : Int) : callB EM0 2000 159 [AV.agg [AV.sym IntKind.u8 k, AV.sym IntKind.i64 a, AV.sym IntKind.i64 f], AV.agg [AV.sym IntKind.u8 k2, AV.sym IntKind.i64 a2, AV.sym IntKind.i64 f2]] (rlsH k a f k2 a2 f2) (rlsR k a f k2 a2 f2) [] [Hint.b false, Hint.b false] =
 some ([decide (f < f2) = ltB (k, a, f) (k2, a2, f2),
 (a != a2) = false,
 (k != k2) = false]) := by kernel_rfl
theorem rls_loc (k a f k2 a2 f2 : Int) : LocOk Tryz.prog 159 [.agg [.sym .u8 k, .sym .i64 a, .sym .i64 f], .agg [.sym .u8 k2, .sym .i64 a2, .sym .i64 f2]] (rlsH k a f k2 a2 f2) (rlsR k a f k2 a2 f2) := by
  refine loc_of_call EM0_ok (fun hp => ?_)
  clear hp
  cases h1 : (k != k2) with
  | true =>
    refine ⟨2000, _, _, _, rls_1 .., (cj ⟨(by first | rfl | (unfold ltB; rw [decide_eq_decide]; unfold ltK; simp at *; omega)), h1, trivial⟩)⟩
  | false =>
    cases h2 : (a != a2) with
    | true =>
      refine ⟨2000, _, _, _, rls_2 .., (cj ⟨(by first | rfl | (unfold ltB; rw [decide_eq_decide]; unfold ltK; simp at *; omega)), h2, h1, trivial⟩)⟩
    | false =>
      refine ⟨2000, _, _, _, rls_3 .., (cj ⟨(by first | rfl | (unfold ltB; rw [decide_eq_decide]; unfold ltK; simp at *; omega)), h2, h1, trivial⟩)⟩
noncomputable def rlsSpec : LSpec := fun la lh => match la, lh with
  | [.agg [.sym .u8 k, .sym .i64 a, .sym .i64 f], .agg [.sym .u8 k2, .sym .i64 a2, .sym .i64 f2]], [] => some (rlsR k a f k2 a2 f2)
  | _, _ => none
theorem rlsSpec_ok (la : List AV) (lh : List (Nat × AO)) (R : LR) (h : rlsSpec la lh = some R) : LocOk Tryz.prog 159 la lh R := by
  unfold rlsSpec at h
  split at h
  · rename_i k a f k2 a2 f2
    cases h
    exact rls_loc k a f k2 a2 f2
  · cases h

end Go.Proofs.YtlpcdjhojfopjaaGreatDoor

/-
  Words of the document: the inner loop: definitions.
-/
set_option linter.unusedSimpArgs false
set_option linter.unusedVariables false
namespace Go.Proofs.YtlpcdjhojfopjaaGreatDoor
open Go.Ev
noncomputable def ERw : Env := envG Tryz.prog ((159, locSP rlsSpec) :: memSP)
theorem ERw_ok : EnvOk ERw := envG_ok mgood ⟨locSP_ok rlsSpec_ok, memSP_ok⟩
abbrev rwA (W : Nat → Wd) (i : Nat) : Nat → Nat → AV := wdF W
theorem wdAt_key {L : List (K3 × Int)} {i : Nat} {y : K3 × Int} (h : L[i]? = some y) : (wdAt L i).key = y.1 := by
  unfold wdAt; rw [h]; rfl
/-- The test of the place. -/
theorem rw_lt {L : List (K3 × Int)} {x : K3} {i : Nat} (hi : i < L.length) (hp : i ≤ posL x L) (h : ltB (wdAt L i).key x = true) : i + 1 ≤ posL x L := by
  by_cases e : i = posL x L
  · have h1 : L[i]? = some L[i] := List.getElem?_eq_getElem hi
    have h2 := posL_at (x := x) (l := L) (y := L[i]) (by rw [← e]; exact h1)
    rw [wdAt_key h1] at h
    rw [h] at h2; cases h2
  · omega
theorem rw_ge {L : List (K3 × Int)} {x : K3} {i : Nat} (hi : i < L.length) (hp : i ≤ posL x L) (h : ltB (wdAt L i).key x = false) : posL x L = i := by
  by_cases e : i < posL x L
  · obtain ⟨y, h1, h2⟩ := posL_lt e
    rw [wdAt_key h1] at h
    rw [h] at h2; cases h2
  · omega
theorem rw_end {L : List (K3 × Int)} {x : K3} {i : Nat} (hi : L.length ≤ i) (hp : i ≤ posL x L) : posL x L = i := by
  have := posL_le x L; omega

noncomputable def rwiU (n l : Nat) (g : Nat → Nat → AV) (st : Int) (L : LS) (io : Nat) : St := ⟨[.ptr 1 0 0, .top, .top, .ss 4 3 0 (rwl (dOf n g) io).length none, .sym .i64 (Int.ofNat io), .int .i64 0] ++ List.replicate 58 .top, ⟨[(1, .cells 9 (.ss 4 2 0 n none :: lsL st L)), (2, .arr 4 wSh false l g), (3, .arr 4 wSh false (rwl (dOf n g) io).length (wdF (wdAt (rwl (dOf n g) io))))], 4, gnm 0, [], [], [], false⟩⟩
noncomputable def rwiT (n l : Nat) (g : Nat → Nat → AV) (st : Int) (L : LS) (io : Nat) (i : Nat) : St := ⟨[.ptr 1 0 0, .top, .top, .ss 4 3 0 (rwl (dOf n g) io).length none, .sym .i64 (Int.ofNat io), .sym .i64 (Int.ofNat i)] ++ List.replicate 58 .top, ⟨[(1, .cells 9 (.ss 4 2 0 n none :: lsL st L)), (2, .arr 4 wSh false l g), (3, .arr 4 wSh false (rwl (dOf n g) io).length (wdF (wdAt (rwl (dOf n g) io))))], 4, gnm 0, [], [], [], false⟩⟩
noncomputable def rwiX (n l : Nat) (g : Nat → Nat → AV) (st : Int) (L : LS) (io : Nat) (i : Nat) : St := ⟨[.ptr 1 0 0, .top, .top, .ss 4 3 0 (rwl (dOf n g) io).length none, .sym .i64 (Int.ofNat io), .sym .i64 (Int.ofNat i)] ++ List.replicate 58 .top, ⟨[(1, .cells 9 (.ss 4 2 0 n none :: lsL st L)), (2, .arr 4 wSh false l g), (3, .arr 4 wSh false (rwl (dOf n g) io).length (wdF (wdAt (rwl (dOf n g) io))))], 4, gnm 0, [], [], [], false⟩⟩
noncomputable abbrev rwiL : Code := loopAt Tryz.prog 71 1
noncomputable def rwiLP (n l : Nat) (g : Nat → Nat → AV) (st : Int) (L : LS) (io : Nat) : Prop := LoopHolds Tryz.prog rwiL (rwiU n l g st L io) (.exit 2) (rwiX n l g st L io (posL (wdOf (g io)).key (rwl (dOf n g) io)))
end Go.Proofs.YtlpcdjhojfopjaaGreatDoor
