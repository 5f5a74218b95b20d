/-
  Stalls: Pins, Flagged: definitions.
-/
import Derived.Test.YtephpkfajobhmaaEvMemD
import Derived.Test.YtephpkfajobhmaaWBeg
import Derived.Test.YtephpkfajobhmaaWFi
set_option linter.unusedSimpArgs false
set_option linter.unusedVariables false
namespace Go.Proofs.Ytephpkfajobhmaa
open Go.Ev

def stB (now last limit : Int) : Bool := decide (0 ≤ limit ∧ last ≤ now ∧ now - last > limit)
theorem st_a {z0 z1 z2 : Int} (q0 : -9223372036854775808 ≤ z0 ∧ z0 < 9223372036854775808) (q1 : -9223372036854775808 ≤ z1 ∧ z1 < 9223372036854775808) (q2 : -9223372036854775808 ≤ z2 ∧ z2 < 9223372036854775808) (h1 : 0 ≤ z2) (h2 : z1 ≤ z0) : decide (IntKind.u64.wrap (IntKind.u64.wrap z0 - IntKind.u64.wrap z1) > IntKind.u64.wrap z2) = stB z0 z1 z2 := by
  unfold stB
  rw [decide_eq_decide]
  show (z0 % 18446744073709551616 - z1 % 18446744073709551616) % 18446744073709551616 > z2 % 18446744073709551616 ↔ _
  omega
theorem st_c {z0 z1 z2 : Int} (q0 : -9223372036854775808 ≤ z0 ∧ z0 < 9223372036854775808) (q1 : -9223372036854775808 ≤ z1 ∧ z1 < 9223372036854775808) (h1 : 0 ≤ z2) (h2 : z1 ≤ z0) (h : 0 ≤ z1 ∨ z0 < 0) : decide (IntKind.i64.wrap (z0 - z1) > z2) = stB z0 z1 z2 := by
  unfold stB
  rw [decide_eq_decide, i64w (by omega) (by omega)]
  omega
theorem st_d {z0 z1 z2 : Int} (q0 : -9223372036854775808 ≤ z0 ∧ z0 < 9223372036854775808) (q1 : -9223372036854775808 ≤ z1 ∧ z1 < 9223372036854775808) (q2 : -9223372036854775808 ≤ z2 ∧ z2 < 9223372036854775808) (h1 : 0 ≤ z0) (h2 : z1 < 0) (h : z0 ≤ z2) : decide (IntKind.i64.wrap (0 - IntKind.i64.wrap (z1 + 1)) ≥ IntKind.i64.wrap (z2 - z0)) = stB z0 z1 z2 := by
  unfold stB
  rw [decide_eq_decide, i64w (x := z1 + 1) (by omega) (by omega), i64w (by omega) (by omega), i64w (by omega) (by omega)]
  omega
theorem flh {g : Nat → Nat → AV} {i : Nat} (h2 : 0 < avInt (g (0 + i) 0)) (h3 : 0 < avInt (g (0 + i) 6)) : fl (thOf g) (i + 1) = fl (thOf g) i ++ [i] := by
  rw [Nat.zero_add] at h2 h3
  rw [fl_succ, if_pos ⟨by unfold thOf; omega, by unfold thOf; omega⟩]
theorem flm1 {g : Nat → Nat → AV} {i : Nat} (h3 : avInt (g (0 + i) 6) ≤ 0) (h0 : 0 ≤ avInt (g i 6)) : fl (thOf g) (i + 1) = fl (thOf g) i := by
  rw [Nat.zero_add] at h3
  rw [fl_succ, if_neg (fun ⟨_, h⟩ => h (by unfold thOf; omega)), List.append_nil]
theorem flm0 {g : Nat → Nat → AV} {i : Nat} (h3 : avInt (g (0 + i) 0) ≤ 0) (h0 : 0 ≤ avInt (g i 0)) : fl (thOf g) (i + 1) = fl (thOf g) i := by
  rw [Nat.zero_add] at h3
  rw [fl_succ, if_neg (fun ⟨h, _⟩ => h (by unfold thOf; omega)), List.append_nil]
theorem fl_row (L : List Nat) (x : Nat) : ∀ i, i < (L ++ [x]).length → rowOb [.int .i64] 0 (if i < L.length then flF L (0 + i) else rowsOf 1 [AV.sym .i64 (Int.ofNat x)] (i - L.length)) (flF (L ++ [x]) i) := by
  intro i hi
  refine ⟨?_, trivial⟩
  by_cases h : i < L.length
  · rw [if_pos h]; simp [flF, avInt, List.getElem?_append_left h, h]
  · have : i = L.length := by simp at hi; omega
    subst this
    simp [flF, rowsOf, nth, avInt]
theorem fl_rowf (L : List Nat) (x : Nat) : ∀ i, i < (L ++ [x]).length → rowOb [.int .i64] 0 (fun j => if i < L.length then flF L (0 + i) j else rowsOf 1 [AV.sym .i64 (Int.ofNat x)] (i - L.length) j) (flF (L ++ [x]) i) := by
  intro i hi
  have h := fl_row L x i hi
  refine ⟨?_, trivial⟩
  have h := h.1
  by_cases hh : i < L.length
  · rw [if_pos hh] at h; simp only [hh, if_true]; exact h
  · rw [if_neg hh] at h; simp only [hh, if_false]; exact h

def saIP (n l : Nat) (r : Bool) (g : Nat → Nat → AV) (sl ge : Int) (mk : Bool) (b ep er : Int) (i : Nat) : Bool := decide (avInt (g (0 + i) 6) > b)
noncomputable def saIH (n l : Nat) (r : Bool) (g : Nat → Nat → AV) (sl ge : Int) (mk : Bool) (b ep er : Int) : List (Nat × AO) := [(1, .arr 10 tSh r l g), (2, .cells 6 [.sym .i64 sl, .sym .u32 ge, .symb mk, .sym .u64 b, .sym .u64 ep, .sym .u64 er])]
noncomputable def saIU (n l : Nat) (r : Bool) (g : Nat → Nat → AV) (sl ge : Int) (mk : Bool) (b ep er : Int) : St := ⟨[.ss 10 1 0 n none, .func (.func 88) [] [.ptr 2 0 0], .top, .top, .top, .top, .ss 10 1 0 n none, .sym .i64 (Int.ofNat n), .int .i64 0] ++ List.replicate 10 .top, ⟨saIH n l r g sl ge mk b ep er, 3, gnm 0, [], [], [], false⟩⟩
noncomputable def saIT (n l : Nat) (r : Bool) (g : Nat → Nat → AV) (sl ge : Int) (mk : Bool) (b ep er : Int) (i : Nat) : St := ⟨[.ss 10 1 0 n none, .func (.func 88) [] [.ptr 2 0 0], .top, .top, .top, .top, .ss 10 1 0 n none, .sym .i64 (Int.ofNat n), .sym .i64 (Int.ofNat i)] ++ List.replicate 10 .top, ⟨saIH n l r g sl ge mk b ep er, 3, gnm 0, [], [], [], false⟩⟩
noncomputable def saIQ (n l : Nat) (r : Bool) (g : Nat → Nat → AV) (sl ge : Int) (mk : Bool) (b ep er : Int) (k : Nat) : St := ⟨[.top, .top, .top, .top, .sym .i64 (Int.ofNat k)] ++ List.replicate 14 .top, ⟨saIH n l r g sl ge mk b ep er, 3, gnm 0, [], [], [], false⟩⟩
noncomputable def saIS (n l : Nat) (r : Bool) (g : Nat → Nat → AV) (sl ge : Int) (mk : Bool) (b ep er : Int) : St := ⟨[] ++ List.replicate 19 .top, ⟨saIH n l r g sl ge mk b ep er, 3, gnm 0, [], [], [], false⟩⟩
noncomputable def saIR (n l : Nat) (r : Bool) (g : Nat → Nat → AV) (sl ge : Int) (mk : Bool) (b ep er : Int) : LR := ⟨2, .sym .i64 (srch (saIP n l r g sl ge mk b ep er) n (fun i => Int.ofNat i) (-1)), saIH n l r g sl ge mk b ep er, 0, [], [n ≤ l, n ≤ 1000000]⟩
noncomputable abbrev saIL : Code := loopAt Try.prog 128 0
noncomputable def saILF (n l : Nat) (r : Bool) (g : Nat → Nat → AV) (sl ge : Int) (mk : Bool) (b ep er : Int) (k : Nat) : Prop := LoopHolds Try.prog saIL (saIU n l r g sl ge mk b ep er) .ret (saIQ n l r g sl ge mk b ep er k)
noncomputable def saILN (n l : Nat) (r : Bool) (g : Nat → Nat → AV) (sl ge : Int) (mk : Bool) (b ep er : Int) : Prop := LoopHolds Try.prog saIL (saIU n l r g sl ge mk b ep er) (.exit 0) (saIS n l r g sl ge mk b ep er)
def saPP (n l : Nat) (r : Bool) (g : Nat → Nat → AV) (sl ge : Int) (mk : Bool) (b ep er : Int) (ew : Int) (i : Nat) : Bool := decide (b < avInt (g (0 + i) 6))
noncomputable def saPH (n l : Nat) (r : Bool) (g : Nat → Nat → AV) (sl ge : Int) (mk : Bool) (b ep er : Int) (ew : Int) : List (Nat × AO) := [(1, .arr 10 tSh r l g)]
noncomputable def saPE (n l : Nat) (r : Bool) (g : Nat → Nat → AV) (sl ge : Int) (mk : Bool) (b ep er : Int) (ew : Int) : List (Nat × AO) := [(3, .cells 2 [.ss 10 1 0 n none, .sym .u64 ew]), (2, .cells 6 [.sym .i64 sl, .sym .u32 ge, .symb mk, .sym .u64 b, .sym .u64 ep, .sym .u64 er]), (1, .arr 10 tSh r l g)]
noncomputable def saPU (n l : Nat) (r : Bool) (g : Nat → Nat → AV) (sl ge : Int) (mk : Bool) (b ep er : Int) (ew : Int) : St := ⟨[.top, .top, .ptr 2 0 0, .ptr 3 0 0, .top, .int .i64 0] ++ List.replicate 16 .top, ⟨saPE n l r g sl ge mk b ep er ew, 4, gnm 0, [], [], [], false⟩⟩
noncomputable def saPT (n l : Nat) (r : Bool) (g : Nat → Nat → AV) (sl ge : Int) (mk : Bool) (b ep er : Int) (ew : Int) (i : Nat) : St := ⟨[.top, .top, .ptr 2 0 0, .ptr 3 0 0, .top, .sym .i64 (Int.ofNat i)] ++ List.replicate 16 .top, ⟨saPE n l r g sl ge mk b ep er ew, 4, gnm 0, [], [], [], false⟩⟩
noncomputable def saPQ (n l : Nat) (r : Bool) (g : Nat → Nat → AV) (sl ge : Int) (mk : Bool) (b ep er : Int) (ew : Int) (k : Nat) : St := ⟨[.top, .top, .top, .top, .bool true] ++ List.replicate 17 .top, ⟨saPE n l r g sl ge mk b ep er ew, 4, gnm 0, [], [], [], false⟩⟩
noncomputable def saPS (n l : Nat) (r : Bool) (g : Nat → Nat → AV) (sl ge : Int) (mk : Bool) (b ep er : Int) (ew : Int) : St := ⟨[] ++ List.replicate 22 .top, ⟨saPE n l r g sl ge mk b ep er ew, 4, gnm 0, [], [], [], false⟩⟩
noncomputable def saPR (n l : Nat) (r : Bool) (g : Nat → Nat → AV) (sl ge : Int) (mk : Bool) (b ep er : Int) (ew : Int) : LR := ⟨1, .symb (srchB (saPP n l r g sl ge mk b ep er ew) n), saPH n l r g sl ge mk b ep er ew, 0, [], [n ≤ l, n ≤ 1000000]⟩
noncomputable abbrev saPL : Code := loopAt Try.prog 38 0
noncomputable def saPLF (n l : Nat) (r : Bool) (g : Nat → Nat → AV) (sl ge : Int) (mk : Bool) (b ep er : Int) (ew : Int) (k : Nat) : Prop := LoopHolds Try.prog saPL (saPU n l r g sl ge mk b ep er ew) .ret (saPQ n l r g sl ge mk b ep er ew k)
noncomputable def saPLN (n l : Nat) (r : Bool) (g : Nat → Nat → AV) (sl ge : Int) (mk : Bool) (b ep er : Int) (ew : Int) : Prop := LoopHolds Try.prog saPL (saPU n l r g sl ge mk b ep er ew) (.exit 0) (saPS n l r g sl ge mk b ep er ew)
noncomputable def saFU (n l : Nat) (r : Bool) (g : Nat → Nat → AV) (ew : Int) : St := ⟨[.top, .ptr 2 0 0, .top, .nils, .int .i64 0] ++ List.replicate 28 .top, ⟨[(2, .cells 2 [.ss 10 1 0 n none, .sym .u64 ew]), (1, .arr 10 tSh r l g)], 3, gnm 0, [], [], [], false⟩⟩
noncomputable def saFT (n l : Nat) (r : Bool) (g : Nat → Nat → AV) (ew : Int) (i : Nat) : St := ⟨[.top, .ptr 2 0 0, .top, .ss 1 3 0 (fl (thOf g) i).length none, .sym .i64 (Int.ofNat i)] ++ List.replicate 28 .top, ⟨[(3, .arr 1 [.int .i64] false (fl (thOf g) i).length (flF (fl (thOf g) i))), (2, .cells 2 [.ss 10 1 0 n none, .sym .u64 ew]), (1, .arr 10 tSh r l g)], 4, gnm 0, [], [], [], false⟩⟩
noncomputable def saFX (n l : Nat) (r : Bool) (g : Nat → Nat → AV) (ew : Int) (i : Nat) : St := ⟨[.top, .ptr 2 0 0, .top, .ss 1 3 0 (fl (thOf g) i).length none] ++ List.replicate 29 .top, ⟨[(3, .arr 1 [.int .i64] false (fl (thOf g) i).length (flF (fl (thOf g) i))), (2, .cells 2 [.ss 10 1 0 n none, .sym .u64 ew]), (1, .arr 10 tSh r l g)], 4, gnm 0, [], [], [], false⟩⟩
noncomputable abbrev saFL : Code := loopAt Try.prog 36 0
noncomputable def saFLP (n l : Nat) (r : Bool) (g : Nat → Nat → AV) (ew : Int) : Prop := LoopHolds Try.prog saFL (saFU n l r g ew) (.exit 0) (saFX n l r g ew n)
noncomputable def saGH (n l : Nat) (r : Bool) (g : Nat → Nat → AV) (ew : Int) : List (Nat × AO) := [(1, .arr 10 tSh r l g)]
noncomputable def saGR (n l : Nat) (r : Bool) (g : Nat → Nat → AV) (ew : Int) : LR := ⟨1, .ss 1 2 0 (fl (thOf g) n).length none, [(2, .arr 1 [.int .i64] false (fl (thOf g) n).length (flF (fl (thOf g) n))), (1, .arr 10 tSh r l g)], 1, [], [n ≤ l, n ≤ 1000000, ∀ i, i < n → 0 ≤ avInt (g i 0) ∧ 0 ≤ avInt (g i 6)]⟩
noncomputable def saTH (z0 z1 z2 : Int) : List (Nat × AO) := []
noncomputable def saTR (z0 z1 z2 : Int) : LR := ⟨0, .symb (stB z0 z1 z2), [], 0, [], [-9223372036854775808 ≤ z0 ∧ z0 < 9223372036854775808, -9223372036854775808 ≤ z1 ∧ z1 < 9223372036854775808, -9223372036854775808 ≤ z2 ∧ z2 < 9223372036854775808]⟩
noncomputable def saRH (z0 z1 z2 : Int) : List (Nat × AO) := []
noncomputable def saRR (z0 z1 z2 : Int) : LR := ⟨0, .symb (stB z0 z1 z2), [], 0, [], [-9223372036854775808 ≤ z0 ∧ z0 < 9223372036854775808, -9223372036854775808 ≤ z1 ∧ z1 < 9223372036854775808, -9223372036854775808 ≤ z2 ∧ z2 < 9223372036854775808]⟩
end Go.Proofs.Ytephpkfajobhmaa
