/-
  Words of the document: the inner loop: definitions.
-/
import Derived.Test.YtlpcdjhojfopjaaDoorKRlDef
set_option linter.unusedSimpArgs false
set_option linter.unusedVariables false
namespace Go.Proofs.YtlpcdjhojfopjaaDoor
open Go.Ev
noncomputable def ERw : Env := envG Tryd.prog ((109, locSP rlsSpec) :: memSP)
theorem ERw_ok : EnvOk ERw := envG_ok mgood ⟨locSP_ok rlsSpec_ok, memSP_ok⟩
abbrev rwA (W : Nat → Wd) (i : Nat) : Nat → Nat → AV := wdF W
theorem wdAt_key {L : List (K3 × Int)} {i : Nat} {y : K3 × Int} (h : L[i]? = some y) : (wdAt L i).key = y.1 := by
  unfold wdAt; rw [h]; rfl
/-- The test of the place. -/
theorem rw_lt {L : List (K3 × Int)} {x : K3} {i : Nat} (hi : i < L.length) (hp : i ≤ posL x L) (h : ltB (wdAt L i).key x = true) : i + 1 ≤ posL x L := by
  by_cases e : i = posL x L
  · have h1 : L[i]? = some L[i] := List.getElem?_eq_getElem hi
    have h2 := posL_at (x := x) (l := L) (y := L[i]) (by rw [← e]; exact h1)
    rw [wdAt_key h1] at h
    rw [h] at h2; cases h2
  · omega
theorem rw_ge {L : List (K3 × Int)} {x : K3} {i : Nat} (hi : i < L.length) (hp : i ≤ posL x L) (h : ltB (wdAt L i).key x = false) : posL x L = i := by
  by_cases e : i < posL x L
  · obtain ⟨y, h1, h2⟩ := posL_lt e
    rw [wdAt_key h1] at h
    rw [h] at h2; cases h2
  · omega
theorem rw_end {L : List (K3 × Int)} {x : K3} {i : Nat} (hi : L.length ≤ i) (hp : i ≤ posL x L) : posL x L = i := by
  have := posL_le x L; omega

noncomputable def rwiU (n l : Nat) (g : Nat → Nat → AV) (st : Int) (L : LS) (io : Nat) : St := ⟨[.ptr 1 0 0, .top, .top, .ss 4 3 0 (rwl (dOf n g) io).length none, .sym .i64 (Int.ofNat io), .int .i64 0] ++ List.replicate 58 .top, ⟨[(1, .cells 9 (.ss 4 2 0 n none :: lsL st L)), (2, .arr 4 wSh false l g), (3, .arr 4 wSh false (rwl (dOf n g) io).length (wdF (wdAt (rwl (dOf n g) io))))], 4, gnm 0, [], [], [], false⟩⟩
noncomputable def rwiT (n l : Nat) (g : Nat → Nat → AV) (st : Int) (L : LS) (io : Nat) (i : Nat) : St := ⟨[.ptr 1 0 0, .top, .top, .ss 4 3 0 (rwl (dOf n g) io).length none, .sym .i64 (Int.ofNat io), .sym .i64 (Int.ofNat i)] ++ List.replicate 58 .top, ⟨[(1, .cells 9 (.ss 4 2 0 n none :: lsL st L)), (2, .arr 4 wSh false l g), (3, .arr 4 wSh false (rwl (dOf n g) io).length (wdF (wdAt (rwl (dOf n g) io))))], 4, gnm 0, [], [], [], false⟩⟩
noncomputable def rwiX (n l : Nat) (g : Nat → Nat → AV) (st : Int) (L : LS) (io : Nat) (i : Nat) : St := ⟨[.ptr 1 0 0, .top, .top, .ss 4 3 0 (rwl (dOf n g) io).length none, .sym .i64 (Int.ofNat io), .sym .i64 (Int.ofNat i)] ++ List.replicate 58 .top, ⟨[(1, .cells 9 (.ss 4 2 0 n none :: lsL st L)), (2, .arr 4 wSh false l g), (3, .arr 4 wSh false (rwl (dOf n g) io).length (wdF (wdAt (rwl (dOf n g) io))))], 4, gnm 0, [], [], [], false⟩⟩
noncomputable abbrev rwiL : Code := loopAt Tryd.prog 60 1
noncomputable def rwiLP (n l : Nat) (g : Nat → Nat → AV) (st : Int) (L : LS) (io : Nat) : Prop := LoopHolds Tryd.prog rwiL (rwiU n l g st L io) (.exit 2) (rwiX n l g st L io (posL (wdOf (g io)).key (rwl (dOf n g) io)))
end Go.Proofs.YtlpcdjhojfopjaaDoor
