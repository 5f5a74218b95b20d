/-
  StallsPlay: its Flags as a family: plain.
-/
import Derived.Test.YtephpkfajobhmaaWFaDef
import Derived.Test.YtephpkfajobhmaaEvFb
set_option linter.unusedSimpArgs false
set_option linter.unusedVariables false
namespace Go.Proofs.Ytephpkfajobhmaa
open Go.Ev
structure SO where
  ln : Nat
  th : Int
  e : Int
structure ST where
  S : MS
  R : RS
  n : Nat
  O : Nat → SO
def sObjs (o : SO) : List (Nat × AO) := [(0, .cells 3 [.int .i64 (Int.ofNat o.ln), .sym .i64 o.th, .sym .u64 o.e]), (1, .cells 3 [.sym .i64 o.th, .int .i64 (Int.ofNat o.ln), .sym .u64 o.e])]
def sMb (o : SO) : Mb := ⟨[.ptr 0 0 0, .ptr 1 0 0], sObjs o⟩
def soO (S : MS) (o : SO) : SO := match o.ln with
  | 1 => ⟨2, o.th, o.e⟩
  | 2 => ⟨3, o.th, mget S.M (key 2 0 0)⟩
  | 3 => ⟨4, o.th, o.e⟩
  | 4 => ⟨0, o.th, o.e⟩
  | k => ⟨k, o.th, o.e⟩
def soS (S : MS) (o : SO) : MS := match o.ln with
  | 1 => mStore S 8 o.th 6 18446744073709551615
  | 2 => mLoad S 2 0 0
  | 3 => mStore S 8 o.th 6 (IntKind.u64.wrap (o.e + 1))
  | 4 => mCas S 2 0 0 o.e (IntKind.u64.wrap (o.e + 1))
  | _ => S
def soR (S : RS) (o : SO) : RS := match o.ln with
  | 1 => rStore S 8 o.th 6 18446744073709551615
  | 2 => rLoad S 2 0 0
  | 3 => rStore S 8 o.th 6 (IntKind.u64.wrap (o.e + 1))
  | 4 => rCas S 2 0 0 o.e (IntKind.u64.wrap (o.e + 1))
  | _ => S
theorem so_mem {S : MS} {R : RS} {n : Nat} (h : Fin2 S R n) (o : SO) : Fin2 (soS S o) (soR R o) (n + 1) := by
  obtain ⟨ln, th, e⟩ := o
  match ln with
  | 0 => exact h.one
  | 1 => exact h.store _ _ _ _ (by decide)
  | 2 => exact h.load ..
  | 3 => exact h.store _ _ _ _ (w64_r _)
  | 4 => exact h.cas _ _ _ _ _ (w64_r _)
  | k + 5 => exact h.one
theorem so_ok {S : MS} {o : SO} (h : o.ln ≤ 4) : (soO S o).ln ≤ 4 := by
  obtain ⟨ln, th, e⟩ := o
  match ln, h with
  | 0, _ => exact Nat.zero_le _
  | 1, _ => show 2 ≤ 4; decide
  | 2, _ => show 3 ≤ 4; decide
  | 3, _ => show 4 ≤ 4; decide
  | 4, _ => exact Nat.zero_le _
  | k + 5, h => exact absurd h (by show ¬ k + 5 ≤ 4; omega)
def sNew (w : Int) : SO := if w < 0 then ⟨0, 0, 0⟩ else if 16 ≤ w then ⟨0, 0, 0⟩ else ⟨1, w, 0⟩
theorem sNew_ok (w : Int) : (sNew w).ln ≤ 4 := by
  unfold sNew
  repeat' split
  · exact Nat.zero_le _
  · exact Nat.zero_le _
  · show 1 ≤ 4; decide
def stAdd (x : ST) (o : SO) : ST := ⟨x.S, x.R, x.n + 1, fun i => if i = x.n then o else x.O i⟩
def stDo (x : ST) (j : Nat) (o : SO) : ST := ⟨soS x.S o, soR x.R o, x.n, fun i => if i = j then soO x.S o else x.O i⟩
def stStep (r : Nat → AV) (x : ST) : ST :=
  if (avInt (r 0)).tmod 5 = 0 then stAdd x (sNew (avInt (r 1)))
  else if (avInt (r 0)).tmod 5 = 1 then ⟨mStore x.S (avInt (r 2)) (avInt (r 3)) (avInt (r 4)) (avInt (r 5)), rStore x.R (avInt (r 2)) (avInt (r 3)) (avInt (r 4)) (avInt (r 5)), x.n, x.O⟩
  else if x.n = 0 then x else stDo x (jX r x.n) (x.O (jX r x.n))
def stN (f : Nat → Nat → AV) : Nat → ST
  | 0 => ⟨ms0, rs0, 0, fun _ => ⟨0, 0, 0⟩⟩
  | n + 1 => stStep (f n) (stN f n)
structure StOk (x : ST) (i : Nat) : Prop where
  f : Fin2 x.S x.R i
  n : x.n ≤ i
  o : ∀ j, (x.O j).ln ≤ 4
theorem stStep_ok {r : Nat → AV} {x : ST} {i : Nat} (h : StOk x i) (hr : 0 ≤ avInt (r 5) ∧ avInt (r 5) < 18446744073709551616) : StOk (stStep r x) (i + 1) := by
  have hn := h.n
  unfold stStep
  repeat' split
  · refine ⟨h.f.one, by show x.n + 1 ≤ i + 1; omega, fun j => ?_⟩
    show (if j = x.n then sNew (avInt (r 1)) else x.O j).ln ≤ 4
    split
    · exact sNew_ok _
    · exact h.o j
  · exact ⟨h.f.store _ _ _ _ hr, by show x.n ≤ i + 1; omega, h.o⟩
  · exact ⟨h.f.one, by omega, h.o⟩
  · refine ⟨so_mem h.f _, by show x.n ≤ i + 1; omega, fun j => ?_⟩
    show (if j = jX r x.n then soO x.S (x.O (jX r x.n)) else x.O j).ln ≤ 4
    split
    · exact so_ok (h.o _)
    · exact h.o j
theorem stN_ok {f : Nat → Nat → AV} : ∀ i, (∀ k, k < i → 0 ≤ avInt (f k 5) ∧ avInt (f k 5) < 18446744073709551616) → StOk (stN f i) i
  | 0, _ => ⟨⟨Fine.nil, U64.nil⟩, Nat.le_refl _, fun j => Nat.zero_le _⟩
  | i + 1, hr => stStep_ok (stN_ok i (fun k hk => hr k (by omega))) (hr i (by omega))
end Go.Proofs.Ytephpkfajobhmaa
