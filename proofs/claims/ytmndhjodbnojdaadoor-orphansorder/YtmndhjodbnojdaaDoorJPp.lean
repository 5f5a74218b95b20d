/-
  JPp and what follows it.
-/
import Derived.Test.YtmndhjodbnojdaaDoorJPo
/-
  given: definitions.
-/
set_option linter.unusedSimpArgs false
set_option linter.unusedVariables false
namespace Go.Proofs.YtmndhjodbnojdaaDoor
open Go.Ev
theorem hHead_r' (s t : Int) : 0 ≤ hHead s t ∧ hHead s t < 18446744073709551616 := by
  unfold hHead
  have a := Int.emod_nonneg t (b := 281474976710656) (by decide)
  have b := Int.emod_lt_of_pos t (b := 281474976710656) (by decide)
  split <;> omega
noncomputable def EGv : Env := envG Tryd.prog [(34, locSP ngvSpec), (35, locSP gvSpec)]
theorem EGv_ok : EnvOk EGv := envG_ok mgood ⟨locSP_ok ngvSpec_ok, locSP_ok gvSpec_ok, trivial⟩
structure GSt where
  S : MS
  o : GO
/-- A Give of n slots by one alone: i steps. -/
noncomputable def gvIt (n : Nat) (K : Nat → Int) (S : MS) : Nat → GSt
  | 0 => ⟨S, ⟨ngL n, 0, 0⟩⟩
  | i + 1 => ⟨gvY n K (gvIt n K S i).S (gvIt n K S i).o, gvX n K (gvIt n K S i).S (gvIt n K S i).o⟩
structure GvOk (n : Nat) (o : GO) : Prop where
  l : GLn n o.ln o.at_
  h : R64 o.h
theorem gvS_u {n : Nat} {K : Nat → Int} {S : MS} {o : GO} (h : U64 S) : U64 (gvS n K S o) := by
  unfold gvS
  repeat' split
  · exact h.store _ _ _ _ (hHead_r' _ _)
  · exact h.load _ _ _
  · exact h.store _ _ _ _ (hHead_r' _ _)
  · exact h.cas _ _ _ _ _ (hHead_r' _ _)
  · exact h
theorem gvO_ok {n : Nat} {K : Nat → Int} {S : MS} {o : GO} (h : U64 S) (hn : n ≤ 1000000) (ho : GvOk n o) : GvOk n (gvO n K S o) := by
  obtain ⟨h1, h2⟩ := ho
  obtain ⟨l, w, a⟩ := o
  rcases h1 with rfl | ⟨rfl, a0, a1⟩ | ⟨n0, rfl | rfl | rfl⟩
  · exact ⟨.inl rfl, h2⟩
  · have a1 : a + 1 < Int.ofNat n := a1
    have a0 : 0 ≤ a := a0
    have ew : IntKind.i64.wrap (a + 1) = a + 1 := i64w (by omega) (by simp at a1; omega)
    have en : IntKind.i64.wrap (Int.ofNat n - 1) = Int.ofNat n - 1 := i64w (by simp; omega) (by simp; omega)
    by_cases q : IntKind.i64.wrap (a + 1) = IntKind.i64.wrap (Int.ofNat n - 1)
    · rw [gvO_1a q]; exact ⟨.inr (.inr ⟨by simp at a1; omega, .inl rfl⟩), h2⟩
    · rw [gvO_1b q]
      rw [ew, en] at q
      refine ⟨.inr (.inl ⟨rfl, ?_, ?_⟩), h2⟩
      · show 0 ≤ IntKind.i64.wrap (a + 1); rw [ew]; omega
      · show IntKind.i64.wrap (a + 1) + 1 < Int.ofNat n; rw [ew]; omega
  · exact ⟨.inr (.inr ⟨n0, .inr (.inl rfl)⟩), h _⟩
  · exact ⟨.inr (.inr ⟨n0, .inr (.inr rfl)⟩), h2⟩
  · by_cases q : casD S.M 4 0 0 w = true
    · rw [gvO_4a q]; exact ⟨.inl rfl, h2⟩
    · rw [gvO_4b q]; exact ⟨.inr (.inr ⟨n0, .inl rfl⟩), h2⟩
theorem gvIt_ok {n : Nat} {K : Nat → Int} {S : MS} (h : U64 S) (hn0 : 0 < n) (hn : n ≤ 1000000) : ∀ i, U64 (gvIt n K S i).S ∧ GvOk n (gvIt n K S i).o
  | 0 => ⟨h, by
    refine ⟨?_, z0⟩
    show GLn n (ngL n) 0
    unfold ngL
    split
    · exact .inr (.inr ⟨hn0, .inl rfl⟩)
    · refine .inr (.inl ⟨rfl, Int.le_refl 0, ?_⟩)
      show (0 : Int) + 1 < (n : Int); omega⟩
  | i + 1 => by
    obtain ⟨h1, h2⟩ := gvIt_ok (K := K) h hn0 hn i
    refine ⟨?_, ?_⟩
    · show U64 (gvY _ _ _ _); rw [gvY_eq]; exact gvS_u h1
    · show GvOk n (gvX _ _ _ _); rw [gvX_eq]; exact gvO_ok h1 hn h2
end Go.Proofs.YtmndhjodbnojdaaDoor

/-
  given: its loop: definitions.
-/
set_option linter.unusedSimpArgs false
set_option linter.unusedVariables false
namespace Go.Proofs.YtmndhjodbnojdaaDoor
open Go.Ev

noncomputable def gnlU (n l : Nat) (r : Bool) (f : Nat → Nat → AV) (t : Int) (S : MS) : St := ⟨[.ptr 1 0 0, .top, .sym .i64 t, .top, .top, .top, .bool false, .ptr 4 0 0, .int .i64 1] ++ List.replicate 13 .top, ⟨[(gnm 0, tabAO tab), (1, .cells 9 (.map 2 :: lsL S.st S.L)), (2, .map 115 S.M), (3, .arr 6 [.int .i64, .int .u32, .bool, .int .u64, .int .u64, .int .u64] r l f), (4, .cells 4 [.sym .i64 (ngL n), .sym .u64 0, .ss 1 5 0 n none, .sym .i64 0]), (5, .arr 1 [.int .i64] false n (nF (yK f)))], 6, gnm 0, [], [], [], false⟩⟩
noncomputable def gnlT (n l : Nat) (r : Bool) (f : Nat → Nat → AV) (t : Int) (S : MS) (i : Nat) : St := ⟨[.ptr 1 0 0, .top, .sym .i64 t, .top, .top, .top, .bool false, .ptr 4 0 0, .sym .i64 (Int.ofNat i + 1)] ++ List.replicate 13 .top, ⟨[(gnm 0, tabAO tab), (1, .cells 9 (.map 2 :: lsL (gvIt n (yK f) S i).S.st (gvIt n (yK f) S i).S.L)), (2, .map 115 (gvIt n (yK f) S i).S.M), (3, .arr 6 [.int .i64, .int .u32, .bool, .int .u64, .int .u64, .int .u64] r l f), (4, .cells 4 [.sym .i64 (gvIt n (yK f) S i).o.ln, .sym .u64 (gvIt n (yK f) S i).o.h, .ss 1 5 0 n none, .sym .i64 (gvIt n (yK f) S i).o.at_]), (5, .arr 1 [.int .i64] false n (nF (yK f)))], 6, gnm 0, [], [], [4, 1, 2], false⟩⟩
noncomputable def gnlX (n l : Nat) (r : Bool) (f : Nat → Nat → AV) (t : Int) (S : MS) (i : Nat) : St := ⟨[.ptr 1 0 0, .top, .top, .top, .top, .top, .bool false, .ptr 4 0 0] ++ List.replicate 14 .top, ⟨[(gnm 0, tabAO tab), (1, .cells 9 (.map 2 :: lsL (gvIt n (yK f) S i).S.st (gvIt n (yK f) S i).S.L)), (2, .map 115 (gvIt n (yK f) S i).S.M), (3, .arr 6 [.int .i64, .int .u32, .bool, .int .u64, .int .u64, .int .u64] r l f), (4, .cells 4 [.sym .i64 (gvIt n (yK f) S i).o.ln, .sym .u64 (gvIt n (yK f) S i).o.h, .ss 1 5 0 n none, .sym .i64 (gvIt n (yK f) S i).o.at_]), (5, .arr 1 [.int .i64] false n (nF (yK f)))], 6, gnm 0, [], [], [4, 1, 2], false⟩⟩
noncomputable abbrev gnlL : Code := loopAt Tryd.prog 41 0
noncomputable def gnlLP (n l : Nat) (r : Bool) (f : Nat → Nat → AV) (t : Int) (S : MS) : Prop := LoopHolds Tryd.prog gnlL (gnlU n l r f t S) (.exit 0) (gnlX n l r f t S (n + 1))
end Go.Proofs.YtmndhjodbnojdaaDoor
