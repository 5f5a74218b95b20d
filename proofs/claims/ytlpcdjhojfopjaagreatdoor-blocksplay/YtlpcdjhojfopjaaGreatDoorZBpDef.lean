/-
  BlocksPlay: its operations as a family: plain facts.
-/
import Derived.Test.YtlpcdjhojfopjaaGreatDoorZBegDef
import Derived.Test.YtlpcdjhojfopjaaGreatDoorEvFam
set_option linter.unusedSimpArgs false
set_option linter.unusedVariables false
namespace Go.Proofs.YtlpcdjhojfopjaaGreatDoor
open Go.Ev
/-- t: 0 .. 3: a More (0: over), 4 .. 8: a Less (4: over). -/
structure BO where
  t : Nat
  b : Int
  e : Int
def bpCells (t : Nat) : List AV := match t with
  | 0 => [.ptr 0 0 0, .nilp, .ptr 1 0 0]
  | 1 => [.ptr 0 0 0, .nilp, .ptr 1 0 0]
  | 2 => [.ptr 0 0 0, .nilp, .ptr 1 0 0]
  | 3 => [.ptr 0 0 0, .nilp, .ptr 1 0 0]
  | _ => [.nilp, .ptr 0 0 0, .ptr 1 0 0]
def bpO (l : Nat) (b e : Int) : AO := .cells 3 [.int .i64 (Int.ofNat l), .sym .u64 b, .sym .i64 e]
def bpR (k : Bool) (l : Nat) (b e : Int) : AO := .cells 4 [.bool k, .int .i64 (Int.ofNat l), .sym .i64 e, .sym .u64 b]
def bpObjs (o : BO) : List (Nat × AO) := match o.t with
  | 0 => [(0, bpO 0 o.b o.e), (1, bpR false 0 o.b o.e)]
  | 1 => [(0, bpO 1 o.b o.e), (1, bpR false 1 o.b o.e)]
  | 2 => [(0, bpO 2 o.b o.e), (1, bpR false 2 o.b o.e)]
  | 3 => [(0, bpO 3 o.b o.e), (1, bpR false 3 o.b o.e)]
  | 4 => [(0, bpO 0 o.b o.e), (1, bpR true 0 o.b o.e)]
  | 5 => [(0, bpO 1 o.b o.e), (1, bpR true 1 o.b o.e)]
  | 6 => [(0, bpO 2 o.b o.e), (1, bpR true 2 o.b o.e)]
  | 7 => [(0, bpO 3 o.b o.e), (1, bpR true 3 o.b o.e)]
  | _ => [(0, bpO 4 o.b o.e), (1, bpR true 4 o.b o.e)]
def bpMb (o : BO) : Mb := ⟨bpCells o.t, bpObjs o⟩
structure BoOk (o : BO) : Prop where
  t : o.t ≤ 8
  b : 0 ≤ o.b ∧ o.b < 18446744073709551616
  l : 6 ≤ o.t → 2 ≤ o.b ∧ o.b ≤ 4
def boB (S : MS) : Int := mget S.M (key 5 0 0)
def boO (S : MS) (o : BO) : BO := match o.t with
  | 1 => if 4 ≤ boB S then ⟨0, boB S, 5⟩ else ⟨2, boB S, o.e⟩
  | 2 => if casD S.M 5 0 0 o.b = true then ⟨3, o.b, o.e⟩ else ⟨1, o.b, o.e⟩
  | 3 => ⟨0, o.b, 0⟩
  | 5 => if boB S ≤ 1 then ⟨4, boB S, 4⟩ else if 4 < boB S then ⟨4, boB S, 1⟩ else ⟨6, boB S, o.e⟩
  | 6 => if casD S.M 7 (IntKind.i64.wrap (IntKind.u64.wrap (o.b - 1))) 0 0 = true then ⟨7, o.b, o.e⟩ else ⟨4, o.b, 7⟩
  | 7 => if casD S.M 5 0 0 o.b = true then ⟨4, o.b, 0⟩ else ⟨8, o.b, o.e⟩
  | 8 => ⟨4, o.b, 7⟩
  | _ => o
def boS (S : MS) (o : BO) : MS := match o.t with
  | 1 => mLoad S 5 0 0
  | 2 => mCas S 5 0 0 o.b (IntKind.u64.wrap (o.b + 1))
  | 3 => mCas S 7 (IntKind.i64.wrap o.b) 0 (bk 0 true) (bk 0 false)
  | 5 => mLoad S 5 0 0
  | 6 => mCas S 7 (IntKind.i64.wrap (IntKind.u64.wrap (o.b - 1))) 0 (bk 0 false) (bk 0 true)
  | 7 => mCas S 5 0 0 o.b (IntKind.u64.wrap (o.b - 1))
  | 8 => mCas S 7 (IntKind.i64.wrap (IntKind.u64.wrap (o.b - 1))) 0 (bk 0 true) (bk 0 false)
  | _ => S
def boR (S : RS) (o : BO) : RS := match o.t with
  | 1 => rLoad S 5 0 0
  | 2 => rCas S 5 0 0 o.b (IntKind.u64.wrap (o.b + 1))
  | 3 => rCas S 7 (IntKind.i64.wrap o.b) 0 (bk 0 true) (bk 0 false)
  | 5 => rLoad S 5 0 0
  | 6 => rCas S 7 (IntKind.i64.wrap (IntKind.i64.wrap o.b - 1)) 0 (bk 0 false) (bk 0 true)
  | 7 => rCas S 5 0 0 o.b (IntKind.u64.wrap (o.b - 1))
  | 8 => rCas S 7 (IntKind.i64.wrap (IntKind.i64.wrap o.b - 1)) 0 (bk 0 true) (bk 0 false)
  | _ => S
theorem bk0_r (c : Bool) : 0 ≤ bk 0 c ∧ bk 0 c < 18446744073709551616 := bk_r (by decide) (by decide) c
theorem bo_j {b : Int} (h : 2 ≤ b ∧ b ≤ 4) : IntKind.i64.wrap (IntKind.i64.wrap b - 1) = IntKind.i64.wrap (IntKind.u64.wrap (b - 1)) := by
  rw [i64w (x := b) (by omega) (by omega), u64w (by omega) (by omega)]
theorem bo_mem {S : MS} {R : RS} {n : Nat} (h : Fin2 S R n) {o : BO} (ho : BoOk o) : Fin2 (boS S o) (boR R o) (n + 1) := by
  obtain ⟨t, b, e⟩ := o
  match t, ho with
  | 0, _ => exact h.one
  | 1, _ => exact h.load ..
  | 2, _ => exact h.cas _ _ _ _ _ (w64_r _)
  | 3, _ => exact h.cas _ _ _ _ _ (bk0_r _)
  | 4, _ => exact h.one
  | 5, _ => exact h.load ..
  | 6, ho =>
    have e := bo_j (ho.l (Nat.le_of_ble_eq_true rfl))
    unfold boS boR
    simp only [e]
    exact h.cas _ _ _ _ _ (bk0_r _)
  | 7, _ => exact h.cas _ _ _ _ _ (w64_r _)
  | 8, ho =>
    have e := bo_j (ho.l (Nat.le_of_ble_eq_true rfl))
    unfold boS boR
    simp only [e]
    exact h.cas _ _ _ _ _ (bk0_r _)
  | k + 9, _ => exact h.one
theorem bo_ok {S : MS} (h : U64 S) {o : BO} (ho : BoOk o) : BoOk (boO S o) := by
  obtain ⟨h1, h2, h3⟩ := ho
  obtain ⟨t, b, e⟩ := o
  have no : ∀ {k : Nat} {P : Prop}, k < 6 → 6 ≤ k → P := fun a b => absurd b (by omega)
  match t, h1 with
  | 0, _ => exact ⟨by show 0 ≤ 8; omega, h2, h3⟩
  | 1, _ =>
    unfold boO
    simp only []
    split
    · exact ⟨by show 0 ≤ 8; omega, h _, no (by show 0 < 6; omega)⟩
    · exact ⟨by show 2 ≤ 8; omega, h _, no (by show 2 < 6; omega)⟩
  | 2, _ =>
    unfold boO
    simp only []
    split
    · exact ⟨by show 3 ≤ 8; omega, h2, no (by show 3 < 6; omega)⟩
    · exact ⟨by show 1 ≤ 8; omega, h2, no (by show 1 < 6; omega)⟩
  | 3, _ => exact ⟨by show 0 ≤ 8; omega, h2, no (by show 0 < 6; omega)⟩
  | 4, _ => exact ⟨by show 4 ≤ 8; omega, h2, h3⟩
  | 5, _ =>
    unfold boO
    simp only []
    split
    · exact ⟨by show 4 ≤ 8; omega, h _, no (by show 4 < 6; omega)⟩
    · split
      · exact ⟨by show 4 ≤ 8; omega, h _, no (by show 4 < 6; omega)⟩
      · exact ⟨by show 6 ≤ 8; omega, h _, fun _ => by show 2 ≤ boB S ∧ boB S ≤ 4; omega⟩
  | 6, _ =>
    unfold boO
    simp only []
    split
    · exact ⟨by show 7 ≤ 8; omega, h2, fun _ => h3 (Nat.le_refl _)⟩
    · exact ⟨by show 4 ≤ 8; omega, h2, no (by show 4 < 6; omega)⟩
  | 7, _ =>
    unfold boO
    simp only []
    split
    · exact ⟨by show 4 ≤ 8; omega, h2, no (by show 4 < 6; omega)⟩
    · exact ⟨by show 8 ≤ 8; omega, h2, fun _ => h3 (by show 6 ≤ 7; omega)⟩
  | 8, _ => exact ⟨by show 4 ≤ 8; omega, h2, no (by show 4 < 6; omega)⟩
  | k + 9, h1 => exact absurd h1 (by show ¬ k + 9 ≤ 8; omega)
def bpDo (x : GX BO) (j : Nat) (o : BO) : GX BO := gPut x (boS x.S o) (boR x.R o) j (boO x.S o)
def bpStep (r : Nat → AV) (x : GX BO) : GX BO :=
  if (avInt (r 0)).tmod 6 = 0 then gAdd x ⟨1, 0, 0⟩
  else if (avInt (r 0)).tmod 6 = 1 then gAdd x ⟨5, 0, 0⟩
  else if (avInt (r 0)).tmod 6 = 2 then gSto x (avInt (r 2)) (avInt (r 3)) (avInt (r 4)) (avInt (r 5))
  else if x.n = 0 then x else bpDo x (jU r x.n) (x.O (jU r x.n))
def bpN (f h : Nat → Nat → AV) (q : Nat) : Nat → GX BO
  | 0 => ⟨msN (bgW h) q, rsN (bgW h) q, 0, fun _ => ⟨1, 0, 0⟩⟩
  | n + 1 => bpStep (f n) (bpN f h q n)
theorem bpNew_ok {t : Nat} (ht : t < 6) : BoOk ⟨t, 0, 0⟩ := ⟨by show t ≤ 8; omega, z0, fun h => absurd h (by show ¬ 6 ≤ t; omega)⟩
theorem bpStep_ok {r : Nat → AV} {x : GX BO} {i q : Nat} (h : GIv BoOk x i q) (hr : 0 ≤ avInt (r 5) ∧ avInt (r 5) < 18446744073709551616) : GIv BoOk (bpStep r x) (i + 1) q := by
  unfold bpStep
  repeat' split
  · exact h.add (bpNew_ok (by decide))
  · exact h.add (bpNew_ok (by decide))
  · exact h.sto _ _ _ hr
  · exact h.idle
  · exact h.put (bo_mem h.f (h.o _)) _ (bo_ok h.f.u (h.o _))
theorem bpN_ok {f h : Nat → Nat → AV} {q : Nat} (hq : U64 (msN (bgW h) q)) : ∀ i, (∀ k, k < i → 0 ≤ avInt (f k 5) ∧ avInt (f k 5) < 18446744073709551616) → GIv BoOk (bpN f h q i) i q
  | 0, _ => ⟨⟨fineN (bgW h) q, hq⟩, Nat.le_refl _, fun j => bpNew_ok (by decide)⟩
  | i + 1, hr => bpStep_ok (bpN_ok hq i (fun k hk => hr k (by omega))) (hr i (by omega))
end Go.Proofs.YtlpcdjhojfopjaaGreatDoor
