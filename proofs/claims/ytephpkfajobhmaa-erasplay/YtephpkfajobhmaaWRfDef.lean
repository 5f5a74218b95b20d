/-
  ErasPlay: its operations as a family: plain.
-/
import Derived.Test.YtephpkfajobhmaaWRc
import Derived.Test.YtephpkfajobhmaaWRn
import Derived.Test.YtephpkfajobhmaaWFaDef
set_option linter.unusedSimpArgs false
set_option linter.unusedVariables false
namespace Go.Proofs.Ytephpkfajobhmaa
open Go.Ev
structure RO where
  k : Nat
  av : Int
  th : Int
  hi : Int
  nw : Int
  e : Int
  h2 : Int
  dn : Bool
structure RT where
  S : MS
  R : RS
  n : Nat
  O : Nat → RO
def rCells (k K0 K1 : Nat) : List AV := match k with
  | 0 => [.ptr K0 0 0, .nilp, .nilp, .nilp, .ptr K1 0 0]
  | 1 => [.nilp, .ptr K0 0 0, .nilp, .nilp, .ptr K1 0 0]
  | 2 => [.nilp, .nilp, .ptr K0 0 0, .nilp, .ptr K1 0 0]
  | _ => [.nilp, .nilp, .nilp, .ptr K0 0 0, .ptr K1 0 0]
def rObjs (o : RO) : List (Nat × AO) := match o.k with
  | 0 => [(0, .cells 3 [.sym .i64 o.av, .sym .i64 o.th, .sym .u64 o.hi]), (1, .cells 6 [.sym .i64 0, .sym .i64 o.th, .sym .i64 (rl0 o.av), .sym .u64 (rG0 o.av o.hi), .symb o.dn, .sym .u64 o.e])]
  | 1 => [(0, .cells 2 [.sym .i64 o.av, .sym .i64 o.th]), (1, .cells 6 [.sym .i64 1, .sym .i64 o.th, .sym .i64 (rl1 o.av), .sym .u64 o.h2, .symb o.dn, .sym .u64 o.e])]
  | 2 => [(0, .cells 5 [.sym .i64 o.av, .sym .i64 o.th, .sym .u64 o.hi, .sym .u64 o.nw, .symb o.dn]), (1, .cells 6 [.sym .i64 2, .sym .i64 o.th, .sym .i64 (rl1 o.av), .sym .u64 o.hi, .symb o.dn, .sym .u64 o.e])]
  | _ => [(0, .cells 3 [.sym .i64 o.av, .sym .u64 o.e, .symb o.dn]), (1, .cells 6 [.sym .i64 3, .sym .i64 o.th, .sym .i64 (rl1 o.av), .sym .u64 o.h2, .symb o.dn, .sym .u64 o.e])]
def rMb (o : RO) : Mb := ⟨rCells o.k 0 1, rObjs o⟩
def RoOk (o : RO) : Prop := match o.k with
  | 0 => (o.av = 0 ∨ o.av = 1 ∨ o.av = 2 ∨ o.av = 3) ∧ (o.av = 1 ∨ o.av = 2 → o.hi = IntKind.u64.wrap (o.e + 1)) ∧ (0 ≤ o.hi ∧ o.hi < 18446744073709551616)
  | 1 => o.av = 0 ∨ o.av = 1 ∨ o.av = 2
  | 2 => (o.av = 0 ∨ o.av = 1 ∨ o.av = 2) ∧ (o.av = 1 → o.nw = IntKind.u64.wrap (o.e + 1))
  | _ => o.av = 0 ∨ o.av = 1 ∨ o.av = 2
def roO (S : MS) (o : RO) : RO := match o.k with
  | 0 => ⟨0, rA o.av, o.th, rH0 S o.av o.hi, o.nw, rE S 3 o.av o.e, o.h2, o.dn⟩
  | 1 => ⟨1, rA o.av, o.th, o.hi, o.nw, o.e, o.h2, o.dn⟩
  | 2 => ⟨2, rA2 S o.av o.hi, o.th, rH2 o.av o.hi o.nw, rN2 S o.av o.nw, rE S 2 o.av o.e, o.h2, rD2 S o.av o.hi o.dn⟩
  | _ => ⟨3, rA o.av, o.th, o.hi, o.nw, rE S 2 o.av o.e, o.h2, rD3 S o.av o.e o.dn⟩
def roS (S : MS) (o : RO) : MS := match o.k with
  | 0 => rS0 S o.av o.th o.hi
  | 1 => rS1 S o.av o.th
  | 2 => rS2 S o.av o.th o.nw
  | _ => rS3 S o.av o.e
def roR (S : RS) (o : RO) : RS := match o.k with
  | 0 => rR0 S o.av o.th o.hi
  | 1 => rR1 S o.av o.th
  | 2 => rR2 S o.av o.th o.nw
  | _ => rR3 S o.av o.e
theorem ro_mem {S : MS} {R : RS} {n : Nat} (h : Fin2 S R n) {o : RO} (ho : RoOk o) : Fin2 (roS S o) (roR R o) (n + 1) := by
  obtain ⟨k, av, th, hi, nw, e, h2, dn⟩ := o
  match k, ho with
  | 0, ho =>
    show Fin2 (rS0 S av th hi) (rR0 R av th hi) (n + 1)
    unfold rS0 rR0
    repeat' split
    · exact h.load ..
    · exact h.store _ _ _ _ ho.2.2
    · exact h.store _ _ _ _ ho.2.2
    · exact h.one
  | 1, ho =>
    show Fin2 (rS1 S av th) (rR1 R av th) (n + 1)
    unfold rS1 rR1
    repeat' split
    · exact h.store _ _ _ _ z0
    · exact h.store _ _ _ _ z0
    · exact h.one
  | 2, ho =>
    show Fin2 (rS2 S av th nw) (rR2 R av th nw) (n + 1)
    unfold rS2 rR2
    repeat' split
    · exact h.load ..
    · rename_i q; exact h.store _ _ _ _ (by rw [show nw = _ from ho.2 q]; exact w64_r _)
    · exact h.one
  | k + 3, ho =>
    show Fin2 (rS3 S av e) (rR3 R av e) (n + 1)
    unfold rS3 rR3
    repeat' split
    · exact h.load ..
    · exact h.cas _ _ _ _ _ (w64_r _)
    · exact h.one
theorem rA_r {a : Int} : rA a = 0 ∨ rA a = 1 ∨ rA a = 2 := by
  unfold rA; repeat' split
  · exact .inr (.inr rfl)
  · exact .inr (.inl rfl)
  · exact .inl rfl
theorem ro_ok {S : MS} (h : U64 S) {o : RO} (ho : RoOk o) : RoOk (roO S o) := by
  obtain ⟨k, av, th, hi, nw, e, h2, dn⟩ := o
  match k, ho with
  | 0, ho =>
    obtain ⟨h1, h3, h4⟩ := ho
    have h3 : av = 1 ∨ av = 2 → hi = IntKind.u64.wrap (e + 1) := h3
    refine ⟨?_, ?_, ?_⟩
    · show rA av = 0 ∨ rA av = 1 ∨ rA av = 2 ∨ rA av = 3
      rcases rA_r (a := av) with q | q | q <;> simp [q]
    · show rA av = 1 ∨ rA av = 2 → rH0 S av hi = IntKind.u64.wrap (rE S 3 av e + 1)
      intro q
      by_cases a3 : av = 3
      · unfold rH0 rE; rw [if_pos a3, if_pos a3]; rfl
      · unfold rH0 rE; rw [if_neg a3, if_neg a3]
        refine h3 ?_
        by_cases a2 : av = 2
        · exact .inr a2
        · rw [show rA av = 0 from by unfold rA; rw [if_neg a3, if_neg a2]] at q
          exact absurd q (by decide)
    · show 0 ≤ rH0 S av hi ∧ rH0 S av hi < 18446744073709551616
      unfold rH0; split
      · exact w64_r _
      · exact h4
  | 1, ho => exact rA_r
  | 2, ho =>
    obtain ⟨h1, h3⟩ := ho
    refine ⟨?_, ?_⟩
    · show rA2 S av hi = 0 ∨ rA2 S av hi = 1 ∨ rA2 S av hi = 2
      unfold rA2; repeat' split
      · exact .inl rfl
      · exact .inr (.inl rfl)
      · exact .inl rfl
    · show rA2 S av hi = 1 → rN2 S av nw = IntKind.u64.wrap (rE S 2 av e + 1)
      intro q
      by_cases a2 : av = 2
      · unfold rN2 rE; rw [if_pos a2, if_pos a2]; rfl
      · rw [show rA2 S av hi = 0 from if_neg a2] at q
        exact absurd q (by decide)
  | k + 3, ho => exact rA_r
def rtAdd (x : RT) (o : RO) : RT := ⟨x.S, x.R, x.n + 1, fun i => if i = x.n then o else x.O i⟩
def rNew (k : Nat) (w hh : Int) : RO := match k with
  | 0 => ⟨0, inN w 3, w, 0, 0, 0, 0, false⟩
  | 1 => ⟨1, inN w 2, w, 0, 0, 0, 0, false⟩
  | 2 => ⟨2, inN w 2, w, hh, 0, 0, 0, false⟩
  | _ => ⟨3, 2, w, 0, 0, 0, 0, false⟩
theorem inN_r (w a : Int) : inN w a = 0 ∨ inN w a = a := by unfold inN; split <;> simp
theorem inN_a (w a b : Int) : (inN w a = 0 ∧ inN w b = 0) ∨ (inN w a = a ∧ inN w b = b) := by unfold inN; split <;> simp
theorem rNew_ok (k : Nat) (w hh : Int) : RoOk (rNew k w hh) := by
  match k with
  | 0 =>
    refine ⟨?_, fun q => ?_, z0⟩
    · show inN w 3 = 0 ∨ inN w 3 = 1 ∨ inN w 3 = 2 ∨ inN w 3 = 3
      rcases inN_r w 3 with q | q <;> simp [q]
    · have q : inN w 3 = 1 ∨ inN w 3 = 2 := q
      rcases inN_r w 3 with z | z <;> rw [z] at q <;> exact absurd q (by decide)
  | 1 =>
    show inN w 2 = 0 ∨ inN w 2 = 1 ∨ inN w 2 = 2
    rcases inN_r w 2 with q | q <;> simp [q]
  | 2 =>
    refine ⟨?_, fun q => ?_⟩
    · show inN w 2 = 0 ∨ inN w 2 = 1 ∨ inN w 2 = 2
      rcases inN_r w 2 with q | q <;> simp [q]
    · have q : inN w 2 = 1 := q
      rcases inN_r w 2 with z | z <;> rw [z] at q <;> exact absurd q (by decide)
  | k + 3 => exact .inr (.inr rfl)
theorem nl_0 (w : Int) : nN 0 w = rl0 (inN w 3) := by
  rw [show nN 0 w = inN w 1 from if_neg (by decide)]
  rcases inN_a w 1 3 with ⟨a, b⟩ | ⟨a, b⟩ <;> rw [a, b] <;> rfl
theorem nl_1 (w : Int) : nN 1 w = rl1 (inN w 2) := by
  rw [show nN 1 w = inN w 1 from if_neg (by decide)]
  rcases inN_a w 1 2 with ⟨a, b⟩ | ⟨a, b⟩ <;> rw [a, b] <;> rfl
theorem nl_2 (w : Int) : nN 2 w = rl1 (inN w 2) := by
  rw [show nN 2 w = inN w 1 from if_neg (by decide)]
  rcases inN_a w 1 2 with ⟨a, b⟩ | ⟨a, b⟩ <;> rw [a, b] <;> rfl
theorem g0_0 (a : Int) : (0 : Int) = rG0 a 0 := by unfold rG0; split <;> rfl
def rtDo2 (x : RT) (j : Nat) (o : RO) : RT := ⟨roS x.S o, roR x.R o, x.n, fun i => if i = j then roO x.S o else x.O i⟩
def rtStep (r : Nat → AV) (x : RT) : RT :=
  if (IntKind.i64.wrap (avInt (r 0))).tmod 10 = 0 then rtAdd x (rNew 0 (avInt (r 1)) (avInt (r 2)))
  else if (IntKind.i64.wrap (avInt (r 0))).tmod 10 = 1 then rtAdd x (rNew 1 (avInt (r 1)) (avInt (r 2)))
  else if (IntKind.i64.wrap (avInt (r 0))).tmod 10 = 2 then rtAdd x (rNew 2 (avInt (r 1)) (avInt (r 2)))
  else if (IntKind.i64.wrap (avInt (r 0))).tmod 10 = 3 then rtAdd x (rNew 3 (avInt (r 1)) (avInt (r 2)))
  else if (IntKind.i64.wrap (avInt (r 0))).tmod 10 = 4 then ⟨mStore x.S (avInt (r 3)) (avInt (r 4)) (avInt (r 5)) (avInt (r 6)), rStore x.R (avInt (r 3)) (avInt (r 4)) (avInt (r 5)) (avInt (r 6)), x.n, x.O⟩
  else if x.n = 0 then x else rtDo2 x (jX r x.n) (x.O (jX r x.n))
def rtN (f h : Nat → Nat → AV) (q : Nat) : Nat → RT
  | 0 => ⟨msN (bgW h) q, rsN (bgW h) q, 0, fun _ => ⟨1, 0, 0, 0, 0, 0, 0, false⟩⟩
  | n + 1 => rtStep (f n) (rtN f h q n)
structure RtOk (x : RT) (i q : Nat) : Prop where
  f : Fin2 x.S x.R (q + i)
  n : x.n ≤ i
  o : ∀ j, RoOk (x.O j)
theorem rtStep_ok {r : Nat → AV} {x : RT} {i q : Nat} (h : RtOk x i q) (hr : 0 ≤ avInt (r 6) ∧ avInt (r 6) < 18446744073709551616) : RtOk (rtStep r x) (i + 1) q := by
  have add : ∀ k w hh, RtOk (rtAdd x (rNew k w hh)) (i + 1) q := fun k w hh => ⟨h.f.one, by have := h.n; show x.n + 1 ≤ i + 1; omega, fun j => by
    show RoOk (if j = x.n then rNew k w hh else x.O j)
    split
    · exact rNew_ok k w hh
    · exact h.o j⟩
  unfold rtStep
  repeat' split
  · exact add 0 _ _
  · exact add 1 _ _
  · exact add 2 _ _
  · exact add 3 _ _
  · exact ⟨h.f.store _ _ _ _ hr, by have := h.n; show x.n ≤ i + 1; omega, h.o⟩
  · exact ⟨h.f.one, by have := h.n; omega, h.o⟩
  · refine ⟨ro_mem h.f (h.o _), by have := h.n; show x.n ≤ i + 1; omega, fun j => ?_⟩
    show RoOk (if j = jX r x.n then roO x.S (x.O (jX r x.n)) else x.O j)
    split
    · exact ro_ok h.f.u (h.o _)
    · exact h.o j
theorem rtN_ok {f h : Nat → Nat → AV} {q : Nat} (hq : U64 (msN (bgW h) q)) : ∀ i, (∀ k, k < i → 0 ≤ avInt (f k 6) ∧ avInt (f k 6) < 18446744073709551616) → RtOk (rtN f h q i) i q
  | 0, _ => ⟨⟨fineN (bgW h) q, hq⟩, Nat.le_refl _, fun j => .inl rfl⟩
  | i + 1, hr => rtStep_ok (rtN_ok hq i (fun k hk => hr k (by omega))) (hr i (by omega))
end Go.Proofs.Ytephpkfajobhmaa
