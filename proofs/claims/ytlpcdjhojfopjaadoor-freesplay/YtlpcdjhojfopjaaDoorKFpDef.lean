/-
  FreesPlay: its operations as a family: plain facts.
-/
import Derived.Test.YtlpcdjhojfopjaaDoorKBegDef
import Derived.Test.YtlpcdjhojfopjaaDoorEvFam
set_option linter.unusedSimpArgs false
set_option linter.unusedVariables false
namespace Go.Proofs.YtlpcdjhojfopjaaDoor
open Go.Ev
/-- t: 0: a Pop, over; 1, 2, 3: a Pop's lines; 4: it got a slot; 5: a Push, over; 6, 7, 8: a Push's lines. -/
structure FO where
  t : Nat
  h : Int
  nx : Int
  n : Int
  sl : Int
def fpCells (t : Nat) : List AV := match t with
  | 0 => [.ptr 0 0 0, .nilp, .ptr 1 0 0]
  | 1 => [.ptr 0 0 0, .nilp, .ptr 1 0 0]
  | 2 => [.ptr 0 0 0, .nilp, .ptr 1 0 0]
  | 3 => [.ptr 0 0 0, .nilp, .ptr 1 0 0]
  | 4 => [.ptr 0 0 0, .nilp, .ptr 1 0 0]
  | _ => [.nilp, .ptr 0 0 0, .ptr 1 0 0]
def pO (l : Nat) (h nx s : AV) (g : Bool) : AO := .cells 5 [.int .i64 (Int.ofNat l), h, nx, s, .bool g]
def uO (l : Nat) (h s : Int) : AO := .cells 3 [.int .i64 (Int.ofNat l), .sym .u64 h, .sym .i64 s]
def rO (p : Bool) (s : AV) (l : Nat) (g : Bool) (h n : Int) : AO := .cells 6 [.bool p, s, .int .i64 (Int.ofNat l), .bool g, .sym .u64 h, .sym .u64 n]
def fpObjs (o : FO) : List (Nat × AO) := match o.t with
  | 0 => [(0, pO 0 (.sym .u64 o.h) (.sym .i64 o.nx) (.int .i64 0) false), (1, rO false (.int .i64 0) 0 false o.h o.n)]
  | 1 => [(0, pO 1 (.sym .u64 o.h) (.sym .i64 o.nx) (.int .i64 0) false), (1, rO false (.int .i64 0) 1 false o.h o.n)]
  | 2 => [(0, pO 2 (.sym .u64 o.h) (.sym .i64 o.nx) (.int .i64 0) false), (1, rO false (.int .i64 0) 2 false o.h o.n)]
  | 3 => [(0, pO 3 (.sym .u64 o.h) (.sym .i64 (hSlot o.n)) (.int .i64 0) false), (1, rO false (.int .i64 0) 3 false o.h o.n)]
  | 4 => [(0, pO 0 (.sym .u64 o.h) (.sym .i64 o.nx) (.sym .i64 o.sl) true), (1, rO false (.sym .i64 o.sl) 0 true o.h o.n)]
  | 5 => [(0, uO 0 o.h o.sl), (1, rO true (.sym .i64 o.sl) 0 false o.h o.n)]
  | 6 => [(0, uO 1 o.h o.sl), (1, rO true (.sym .i64 o.sl) 1 false o.h o.n)]
  | 7 => [(0, uO 2 o.h o.sl), (1, rO true (.sym .i64 o.sl) 2 false o.h o.n)]
  | _ => [(0, uO 3 o.h o.sl), (1, rO true (.sym .i64 o.sl) 3 false o.h o.n)]
def fpMb (o : FO) : Mb := ⟨fpCells o.t, fpObjs o⟩
structure FoOk (o : FO) : Prop where
  t : o.t ≤ 8
  h : 0 ≤ o.h ∧ o.h < 18446744073709551616
  n : 0 ≤ o.n ∧ o.n < 18446744073709551616
theorem hHead_r (s t : Int) : 0 ≤ hHead s t ∧ hHead s t < 18446744073709551616 := by
  unfold hHead
  have a := Int.emod_nonneg t (b := 281474976710656) (by decide)
  have b := Int.emod_lt_of_pos t (b := 281474976710656) (by decide)
  split <;> omega
def foM (S : MS) (o : FO) : Int := match o.t with
  | 2 => mget S.M (key 9 (hSlot o.h) 2)
  | _ => mget S.M (key 0 0 0)
def foTo (o : FO) : Int := match o.t with
  | 3 => hHead (hSlot o.n) (IntKind.u64.wrap (hTag o.h + 1))
  | _ => hHead o.sl (IntKind.u64.wrap (hTag o.h + 1))
def foO (S : MS) (o : FO) : FO := match o.t with
  | 1 => if hSlot (foM S o) < 0 then ⟨0, foM S o, o.nx, o.n, o.sl⟩ else ⟨2, foM S o, o.nx, o.n, o.sl⟩
  | 2 => ⟨3, o.h, o.nx, foM S o, o.sl⟩
  | 3 => if casD S.M 0 0 0 o.h = true then ⟨4, o.h, hSlot o.n, o.n, hSlot o.h⟩ else ⟨1, o.h, hSlot o.n, o.n, o.sl⟩
  | 6 => ⟨7, foM S o, o.nx, o.n, o.sl⟩
  | 7 => ⟨8, o.h, o.nx, o.n, o.sl⟩
  | 8 => if casD S.M 0 0 0 o.h = true then ⟨5, o.h, o.nx, o.n, o.sl⟩ else ⟨6, o.h, o.nx, o.n, o.sl⟩
  | _ => o
def foS (S : MS) (o : FO) : MS := match o.t with
  | 1 => mLoad S 0 0 0
  | 2 => mLoad S 9 (hSlot o.h) 2
  | 3 => mCas S 0 0 0 o.h (foTo o)
  | 6 => mLoad S 0 0 0
  | 7 => mStore S 9 o.sl 2 (hHead (hSlot o.h) 0)
  | 8 => mCas S 0 0 0 o.h (foTo o)
  | _ => S
def foR (S : RS) (o : FO) : RS := match o.t with
  | 1 => rLoad S 0 0 0
  | 2 => rLoad S 9 (hSlot o.h) 2
  | 3 => rCas S 0 0 0 o.h (foTo o)
  | 6 => rLoad S 0 0 0
  | 7 => rStore S 9 o.sl 2 (hHead (hSlot o.h) 0)
  | 8 => rCas S 0 0 0 o.h (foTo o)
  | _ => S
theorem foTo_r (o : FO) : 0 ≤ foTo o ∧ foTo o < 18446744073709551616 := by unfold foTo; split <;> exact hHead_r _ _
theorem fo_mem {S : MS} {R : RS} {n : Nat} (h : Fin2 S R n) (o : FO) : Fin2 (foS S o) (foR R o) (n + 1) := by
  obtain ⟨t, hh, nx, n', sl⟩ := o
  match t with
  | 0 => exact h.one
  | 1 => exact h.load ..
  | 2 => exact h.load ..
  | 3 => exact h.cas _ _ _ _ _ (foTo_r _)
  | 4 => exact h.one
  | 5 => exact h.one
  | 6 => exact h.load ..
  | 7 => exact h.store _ _ _ _ (hHead_r _ _)
  | 8 => exact h.cas _ _ _ _ _ (foTo_r _)
  | k + 9 => exact h.one
theorem fo_ok {S : MS} (h : U64 S) {o : FO} (ho : FoOk o) : FoOk (foO S o) := by
  obtain ⟨h1, h2, h3⟩ := ho
  obtain ⟨t, hh, nx, n', sl⟩ := o
  match t, h1 with
  | 0, _ => exact ⟨by show 0 ≤ 8; omega, h2, h3⟩
  | 1, _ =>
    unfold foO
    simp only []
    split
    · exact ⟨by show 0 ≤ 8; omega, h _, h3⟩
    · exact ⟨by show 2 ≤ 8; omega, h _, h3⟩
  | 2, _ => exact ⟨by show 3 ≤ 8; omega, h2, h _⟩
  | 3, _ =>
    unfold foO
    simp only []
    split
    · exact ⟨by show 4 ≤ 8; omega, h2, h3⟩
    · exact ⟨by show 1 ≤ 8; omega, h2, h3⟩
  | 4, _ => exact ⟨by show 4 ≤ 8; omega, h2, h3⟩
  | 5, _ => exact ⟨by show 5 ≤ 8; omega, h2, h3⟩
  | 6, _ => exact ⟨by show 7 ≤ 8; omega, h _, h3⟩
  | 7, _ => exact ⟨by show 8 ≤ 8; omega, h2, h3⟩
  | 8, _ =>
    unfold foO
    simp only []
    split
    · exact ⟨by show 5 ≤ 8; omega, h2, h3⟩
    · exact ⟨by show 6 ≤ 8; omega, h2, h3⟩
  | k + 9, h1 => exact absurd h1 (by show ¬ k + 9 ≤ 8; omega)
theorem fo_cells (S : MS) (o : FO) : fpCells (foO S o).t = fpCells o.t := by
  obtain ⟨t, hh, nx, n', sl⟩ := o
  match t with
  | 0 => rfl
  | 1 => unfold foO; simp only []; split <;> rfl
  | 2 => rfl
  | 3 => unfold foO; simp only []; split <;> rfl
  | 4 => rfl
  | 5 => rfl
  | 6 => rfl
  | 7 => rfl
  | 8 => unfold foO; simp only []; split <;> rfl
  | k + 9 => rfl
def fpNew (w : Int) : FO := if w < 0 then ⟨5, 0, 0, 0, 0⟩ else if 256 ≤ w then ⟨5, 0, 0, 0, 0⟩ else ⟨6, 0, 0, 0, w⟩
theorem fpNew_ok (w : Int) : FoOk (fpNew w) := by
  unfold fpNew
  repeat' split
  · exact ⟨by show 5 ≤ 8; omega, z0, z0⟩
  · exact ⟨by show 5 ≤ 8; omega, z0, z0⟩
  · exact ⟨by show 6 ≤ 8; omega, z0, z0⟩
def fpDo (x : GX FO) (j : Nat) (o : FO) : GX FO := gPut x (foS x.S o) (foR x.R o) j (foO x.S o)
def fpStep (r : Nat → AV) (x : GX FO) : GX FO :=
  if (avInt (r 0)).tmod 6 = 0 then gAdd x ⟨1, 0, 0, 0, 0⟩
  else if (avInt (r 0)).tmod 6 = 1 then gAdd x (fpNew (avInt (r 1)))
  else if (avInt (r 0)).tmod 6 = 2 then gSto x (avInt (r 2)) (avInt (r 3)) (avInt (r 4)) (avInt (r 5))
  else if x.n = 0 then x else fpDo x (jX r x.n) (x.O (jX r x.n))
def fpN (f h : Nat → Nat → AV) (q : Nat) : Nat → GX FO
  | 0 => ⟨msN (bgW h) q, rsN (bgW h) q, 0, fun _ => ⟨1, 0, 0, 0, 0⟩⟩
  | n + 1 => fpStep (f n) (fpN f h q n)
theorem fpStep_ok {r : Nat → AV} {x : GX FO} {i q : Nat} (h : GIv FoOk x i q) (hr : 0 ≤ avInt (r 5) ∧ avInt (r 5) < 18446744073709551616) : GIv FoOk (fpStep r x) (i + 1) q := by
  unfold fpStep
  repeat' split
  · exact h.add ⟨by show 1 ≤ 8; omega, z0, z0⟩
  · exact h.add (fpNew_ok _)
  · exact h.sto _ _ _ hr
  · exact h.idle
  · exact h.put (fo_mem h.f _) _ (fo_ok h.f.u (h.o _))
theorem fpN_ok {f h : Nat → Nat → AV} {q : Nat} (hq : U64 (msN (bgW h) q)) : ∀ i, (∀ k, k < i → 0 ≤ avInt (f k 5) ∧ avInt (f k 5) < 18446744073709551616) → GIv FoOk (fpN f h q i) i q
  | 0, _ => ⟨⟨fineN (bgW h) q, hq⟩, Nat.le_refl _, fun j => ⟨by show 1 ≤ 8; omega, z0, z0⟩⟩
  | i + 1, hr => fpStep_ok (fpN_ok hq i (fun k hk => hr k (by omega))) (hr i (by omega))
end Go.Proofs.YtlpcdjhojfopjaaDoor
