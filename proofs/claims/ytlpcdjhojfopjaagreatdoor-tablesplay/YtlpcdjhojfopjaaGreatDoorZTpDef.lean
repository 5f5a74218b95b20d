/-
  TablesPlay: its operations as a family: plain facts.
-/
import Derived.Test.YtlpcdjhojfopjaaGreatDoorZBegDef
import Derived.Test.YtlpcdjhojfopjaaGreatDoorEvFam
set_option linter.unusedSimpArgs false
set_option linter.unusedVariables false
namespace Go.Proofs.YtlpcdjhojfopjaaGreatDoor
open Go.Ev
/-- t: 0: a Join that ended badly; 1 .. 7: its lines; 8: it joined; 9: a Leave, over; 10 .. 15: its lines 1 .. 6. -/
structure TO where
  t : Nat
  bl : Int
  w : Int
  e : Int
  ow : Int
  ow2 : Int
  bs : Int
  k : Int
  th : Int
  th2 : Int
def tpCells (t : Nat) : List AV := match t with
  | 0 => [.ptr 0 0 0, .nilp, .ptr 1 0 0]
  | 1 => [.ptr 0 0 0, .nilp, .ptr 1 0 0]
  | 2 => [.ptr 0 0 0, .nilp, .ptr 1 0 0]
  | 3 => [.ptr 0 0 0, .nilp, .ptr 1 0 0]
  | 4 => [.ptr 0 0 0, .nilp, .ptr 1 0 0]
  | 5 => [.ptr 0 0 0, .nilp, .ptr 1 0 0]
  | 6 => [.ptr 0 0 0, .nilp, .ptr 1 0 0]
  | 7 => [.ptr 0 0 0, .nilp, .ptr 1 0 0]
  | 8 => [.ptr 0 0 0, .nilp, .ptr 1 0 0]
  | _ => [.nilp, .ptr 0 0 0, .ptr 1 0 0]
def tpJ (l : Nat) (bl w : Int) (e : AV) (ow bs k : Int) (th : AV) : AO := .cells 8 [.int .i64 (Int.ofNat l), .sym .i64 bl, .sym .u64 w, e, .sym .u64 ow, .sym .i64 bs, .sym .i64 k, th]
def tpLv (l : Nat) (bl w : Int) (e : AV) (th : Int) : AO := .cells 5 [.int .i64 (Int.ofNat l), .sym .i64 bl, .sym .u64 w, e, .sym .i64 th]
def tpR (lv : Bool) (l : Nat) (th e ow bs : AV) (bl : Int) (k : AV) (w : Int) : AO := .cells 9 [.bool lv, .int .i64 (Int.ofNat l), th, e, ow, bs, .sym .i64 bl, k, .sym .u64 w]
def tpObjs (o : TO) : List (Nat × AO) := match o.t with
  | 0 => [(0, tpJ 0 o.bl o.w (.sym .i64 o.e) o.ow o.bs o.k (.int .i64 (-1))), (1, tpR false 0 (.int .i64 (-1)) (.sym .i64 o.e) (.sym .u64 o.ow2) (.sym .i64 o.bs) o.bl (.sym .i64 o.k) o.w)]
  | 1 => [(0, tpJ 1 o.bl o.w (.int .i64 0) o.ow o.bs o.k (.int .i64 (-1))), (1, tpR false 1 (.int .i64 (-1)) (.int .i64 0) (.sym .u64 o.ow) (.sym .i64 o.bs) o.bl (.sym .i64 o.k) o.w)]
  | 2 => [(0, tpJ 2 o.bl o.w (.int .i64 0) o.ow o.bs o.k (.int .i64 (-1))), (1, tpR false 2 (.int .i64 (-1)) (.int .i64 0) (.sym .u64 o.ow) (.sym .i64 o.bs) o.bl (.sym .i64 o.k) o.w)]
  | 3 => [(0, tpJ 3 o.bl o.w (.int .i64 0) o.ow o.bs o.k (.int .i64 (-1))), (1, tpR false 3 (.int .i64 (-1)) (.int .i64 0) (.sym .u64 o.ow) (.sym .i64 o.bs) o.bl (.sym .i64 o.k) o.w)]
  | 4 => [(0, tpJ 4 o.bl o.w (.int .i64 0) o.ow o.bs o.k (.int .i64 (-1))), (1, tpR false 4 (.int .i64 (-1)) (.int .i64 0) (.sym .u64 o.ow) (.sym .i64 o.bs) o.bl (.sym .i64 o.k) o.w)]
  | 5 => [(0, tpJ 5 o.bl o.w (.int .i64 0) o.ow o.bs o.k (.sym .i64 o.th)), (1, tpR false 5 (.sym .i64 o.th) (.int .i64 0) (.sym .u64 o.ow) (.sym .i64 o.bs) o.bl (.sym .i64 o.k) o.w)]
  | 6 => [(0, tpJ 6 o.bl o.w (.int .i64 0) o.ow o.bs o.k (.int .i64 (-1))), (1, tpR false 6 (.int .i64 (-1)) (.int .i64 0) (.sym .u64 o.ow) (.sym .i64 o.bs) o.bl (.sym .i64 o.k) o.w)]
  | 7 => [(0, tpJ 7 o.bl o.w (.int .i64 0) o.ow o.bs o.k (.int .i64 (-1))), (1, tpR false 7 (.int .i64 (-1)) (.int .i64 0) (.sym .u64 o.ow) (.sym .i64 o.bs) o.bl (.sym .i64 o.k) o.w)]
  | 8 => [(0, tpJ 0 o.bl o.w (.int .i64 0) o.ow o.bs o.k (.sym .i64 o.th)), (1, tpR false 0 (.sym .i64 o.th) (.int .i64 0) (.sym .u64 o.ow) (.sym .i64 o.bs) o.bl (.sym .i64 o.k) o.w)]
  | 9 => [(0, tpLv 0 o.bl o.w (.sym .i64 o.e) o.th), (1, tpR true 0 (.sym .i64 o.th2) (.sym .i64 o.e) (.int .u64 0) (.int .i64 0) o.bl (.int .i64 0) o.w)]
  | 10 => [(0, tpLv 1 o.bl o.w (.int .i64 0) o.th), (1, tpR true 1 (.sym .i64 o.th) (.int .i64 0) (.int .u64 0) (.int .i64 0) o.bl (.int .i64 0) o.w)]
  | 11 => [(0, tpLv 2 o.bl o.w (.int .i64 0) o.th), (1, tpR true 2 (.sym .i64 o.th) (.int .i64 0) (.int .u64 0) (.int .i64 0) o.bl (.int .i64 0) o.w)]
  | 12 => [(0, tpLv 3 o.bl o.w (.int .i64 0) o.th), (1, tpR true 3 (.sym .i64 o.th) (.int .i64 0) (.int .u64 0) (.int .i64 0) o.bl (.int .i64 0) o.w)]
  | 13 => [(0, tpLv 4 o.bl o.w (.int .i64 0) o.th), (1, tpR true 4 (.sym .i64 o.th) (.int .i64 0) (.int .u64 0) (.int .i64 0) o.bl (.int .i64 0) o.w)]
  | 14 => [(0, tpLv 5 o.bl o.w (.int .i64 0) o.th), (1, tpR true 5 (.sym .i64 o.th) (.int .i64 0) (.int .u64 0) (.int .i64 0) o.bl (.int .i64 0) o.w)]
  | _ => [(0, tpLv 6 o.bl o.w (.int .i64 0) o.th), (1, tpR true 6 (.sym .i64 o.th) (.int .i64 0) (.int .u64 0) (.int .i64 0) o.bl (.int .i64 0) o.w)]
def tpMb (o : TO) : Mb := ⟨tpCells o.t, tpObjs o⟩
structure ToOk (o : TO) : Prop where
  t : o.t ≤ 15
  w : 0 ≤ o.w ∧ o.w < 18446744073709551616
  ow : 1 ≤ o.t → o.t ≤ 8 → 1 ≤ o.ow ∧ o.ow < 18446744073709551616
  e : o.t = 0 → o.e ≠ 0
def tBs (w : Int) : Int := if 4 < w then 4 else w
def tLess (w : Int) : Int := if 0 < bkN w then bkN w - 1 else 0
theorem tl_p (w : Int) : IntKind.u32.wrap ((if 1 > bkN w then 1 else bkN w) - 1) = tLess w := by
  have := bkN_r (w := w)
  unfold tLess
  rw [u32m]
  split <;> split <;> omega
theorem tl_1 {w : Int} (h : 0 < bkN w) : IntKind.u32.wrap (bkN w - 1) = tLess w := by
  have := bkN_r (w := w)
  unfold tLess
  rw [u32m, if_pos h]
  omega
theorem tl_0 {w : Int} (h : ¬ 0 < bkN w) : bkN w = tLess w := by
  have := bkN_r (w := w)
  unfold tLess
  rw [if_neg h]
  omega
def tMore (w : Int) : Int := IntKind.u32.wrap (bkN w + 1)
def jA (o : TO) : Int := IntKind.i64.wrap (IntKind.i64.wrap (o.bl * 4) + o.k)
def jB (o : TO) : Int := IntKind.i64.wrap (IntKind.i64.wrap (4 * o.bl) + o.k)
theorem jAB (o : TO) : jB o = jA o := by unfold jA jB; rw [Int.mul_comm]
def toM (S : MS) (o : TO) : Int := match o.t with
  | 1 => mget S.M (key 5 0 0)
  | 10 => mget S.M (key 8 o.th 0)
  | 11 => mget S.M (key 8 o.th 1)
  | _ => mget S.M (key 7 o.bl 0)
def toO (S : MS) (o : TO) : TO := match o.t with
  | 1 => if toM S o = 0 then ⟨0, o.bl, o.w, 5, o.ow, o.ow, 0, o.k, -1, 0⟩ else ⟨2, o.bl, o.w, 0, o.ow, o.ow, tBs (toM S o), o.k, o.th, 0⟩
  | 2 => if bkC (toM S o) = false ∧ bkN (toM S o) < 4 then ⟨3, o.bl, toM S o, 0, o.ow, o.ow, o.bs, o.k, o.th, 0⟩
    else if IntKind.i64.wrap (o.bl + 1) = o.bs then ⟨0, IntKind.i64.wrap (o.bl + 1), toM S o, 5, o.ow, o.ow, o.bs, o.k, -1, 0⟩ else ⟨2, IntKind.i64.wrap (o.bl + 1), toM S o, 0, o.ow, o.ow, o.bs, o.k, o.th, 0⟩
  | 3 => if casD S.M 7 o.bl 0 o.w = true then ⟨4, o.bl, o.w, 0, o.ow, o.ow, o.bs, 0, o.th, 0⟩ else ⟨2, o.bl, o.w, 0, o.ow, o.ow, o.bs, o.k, o.th, 0⟩
  | 4 => if casD S.M 8 (jA o) 0 0 = true then ⟨5, o.bl, o.w, 0, o.ow, o.ow, o.bs, 1, jA o, 0⟩
    else if IntKind.i64.wrap (o.k + 1) = 4 then ⟨6, o.bl, o.w, 0, o.ow, o.ow, o.bs, IntKind.i64.wrap (o.k + 1), o.th, 0⟩ else ⟨4, o.bl, o.w, 0, o.ow, o.ow, o.bs, IntKind.i64.wrap (o.k + 1), o.th, 0⟩
  | 5 => if IntKind.i64.wrap (o.k + 1) = 10 then ⟨8, o.bl, o.w, 0, o.ow, o.ow, o.bs, IntKind.i64.wrap (o.k + 1), o.th, 0⟩ else ⟨5, o.bl, o.w, 0, o.ow, o.ow, o.bs, IntKind.i64.wrap (o.k + 1), o.th, 0⟩
  | 6 => ⟨7, o.bl, toM S o, 0, o.ow, o.ow, o.bs, o.k, o.th, 0⟩
  | 7 => if casD S.M 7 o.bl 0 o.w = true then ⟨0, o.bl, o.w, 7, o.ow, o.ow, o.bs, o.k, -1, 0⟩ else ⟨6, o.bl, o.w, 0, o.ow, o.ow, o.bs, o.k, o.th, 0⟩
  | 10 => if toM S o = 0 then ⟨9, o.bl, o.w, 6, 0, 0, 0, 0, o.th, o.th⟩ else ⟨11, o.bl, o.w, o.e, 0, 0, 0, 0, o.th, o.th⟩
  | 11 => if toM S o = 0 then ⟨12, o.bl, o.w, o.e, 0, 0, 0, 0, o.th, o.th⟩ else ⟨9, o.bl, o.w, 4, 0, 0, 0, 0, o.th, o.th⟩
  | 12 => ⟨13, o.bl, o.w, o.e, 0, 0, 0, 0, o.th, o.th⟩
  | 13 => ⟨14, o.bl, o.w, o.e, 0, 0, 0, 0, o.th, o.th⟩
  | 14 => ⟨15, o.bl, toM S o, o.e, 0, 0, 0, 0, o.th, o.th⟩
  | 15 => if casD S.M 7 o.bl 0 o.w = true then ⟨9, o.bl, o.w, 0, 0, 0, 0, 0, o.th, o.th⟩ else ⟨14, o.bl, o.w, o.e, 0, 0, 0, 0, o.th, o.th⟩
  | _ => o
def toS (S : MS) (o : TO) : MS := match o.t with
  | 1 => mLoad S 5 0 0
  | 2 => mLoad S 7 o.bl 0
  | 3 => mCas S 7 o.bl 0 o.w (bk (tMore o.w) (bkC o.w))
  | 4 => mCas S 8 (jA o) 0 0 o.ow
  | 5 => mStore S 8 o.th o.k 0
  | 6 => mLoad S 7 o.bl 0
  | 7 => mCas S 7 o.bl 0 o.w (bk (tLess o.w) (bkC o.w))
  | 10 => mLoad S 8 o.th 0
  | 11 => mLoad S 8 o.th 1
  | 12 => mStore S 8 o.th 6 0
  | 13 => mStore S 8 o.th 0 0
  | 14 => mLoad S 7 o.bl 0
  | 15 => mCas S 7 o.bl 0 o.w (bk (tLess o.w) (bkC o.w))
  | _ => S
def toR (S : RS) (o : TO) : RS := match o.t with
  | 1 => rLoad S 5 0 0
  | 2 => rLoad S 7 o.bl 0
  | 3 => rCas S 7 o.bl 0 o.w (bk (tMore o.w) (bkC o.w))
  | 4 => rCas S 8 (jB o) 0 0 o.ow
  | 5 => rStore S 8 o.th o.k 0
  | 6 => rLoad S 7 o.bl 0
  | 7 => rCas S 7 o.bl 0 o.w (bk (tLess o.w) (bkC o.w))
  | 10 => rLoad S 8 o.th 0
  | 11 => rLoad S 8 o.th 1
  | 12 => rStore S 8 o.th 6 0
  | 13 => rStore S 8 o.th 0 0
  | 14 => rLoad S 7 o.bl 0
  | 15 => rCas S 7 o.bl 0 o.w (bk (tLess o.w) (bkC o.w))
  | _ => S
theorem tLess_r (w : Int) : 0 ≤ tLess w ∧ tLess w < 4294967296 := by
  have := bkN_r (w := w)
  unfold tLess; split <;> omega
theorem tMore_r (w : Int) : 0 ≤ tMore w ∧ tMore w < 4294967296 := by
  unfold tMore; rw [u32m]; omega
theorem tbl_r (w : Int) (c : Bool) : 0 ≤ bk (tLess w) c ∧ bk (tLess w) c < 18446744073709551616 := bk_r (tLess_r w).1 (tLess_r w).2 c
theorem tbm_r (w : Int) (c : Bool) : 0 ≤ bk (tMore w) c ∧ bk (tMore w) c < 18446744073709551616 := bk_r (tMore_r w).1 (tMore_r w).2 c
theorem to_mem {S : MS} {R : RS} {n : Nat} (h : Fin2 S R n) {o : TO} (ho : ToOk o) : Fin2 (toS S o) (toR R o) (n + 1) := by
  obtain ⟨-, -, h3, -⟩ := ho
  obtain ⟨t, bl, w, e, ow, ow2, bs, k, th, th2⟩ := o
  match t, h3 with
  | 0, _ => exact h.one
  | 1, _ => exact h.load ..
  | 2, _ => exact h.load ..
  | 3, _ => exact h.cas _ _ _ _ _ (tbm_r _ _)
  | 4, h3 =>
    unfold toS toR
    simp only [jAB]
    have := h3 (Nat.le_of_ble_eq_true rfl) (Nat.le_of_ble_eq_true rfl)
    have : 1 ≤ ow ∧ ow < 18446744073709551616 := this
    exact h.cas _ _ _ _ _ (by omega)
  | 5, _ => exact h.store _ _ _ _ z0
  | 6, _ => exact h.load ..
  | 7, _ => exact h.cas _ _ _ _ _ (tbl_r _ _)
  | 8, _ => exact h.one
  | 9, _ => exact h.one
  | 10, _ => exact h.load ..
  | 11, _ => exact h.load ..
  | 12, _ => exact h.store _ _ _ _ z0
  | 13, _ => exact h.store _ _ _ _ z0
  | 14, _ => exact h.load ..
  | 15, _ => exact h.cas _ _ _ _ _ (tbl_r _ _)
  | k + 16, _ => exact h.one
theorem tok {t : Nat} {bl w e ow ow2 bs k th th2 : Int} (h1 : t ≤ 15) (h2 : 0 ≤ w ∧ w < 18446744073709551616) (h3 : 1 ≤ t → t ≤ 8 → 1 ≤ ow ∧ ow < 18446744073709551616) (h4 : t = 0 → e ≠ 0) : ToOk ⟨t, bl, w, e, ow, ow2, bs, k, th, th2⟩ := ⟨h1, h2, h3, h4⟩
theorem to_ok {S : MS} (h : U64 S) {o : TO} (ho : ToOk o) : ToOk (toO S o) := by
  have ho' := ho
  obtain ⟨h1, h2, h3, h4⟩ := ho
  obtain ⟨t, bl, w, e, ow, ow2, bs, k, th, th2⟩ := o
  have h1 : t ≤ 15 := h1
  have h2 : 0 ≤ w ∧ w < 18446744073709551616 := h2
  have h3 : 1 ≤ t → t ≤ 8 → 1 ≤ ow ∧ ow < 18446744073709551616 := h3
  have hm : 0 ≤ toM S ⟨t, bl, w, e, ow, ow2, bs, k, th, th2⟩ ∧ toM S ⟨t, bl, w, e, ow, ow2, bs, k, th, th2⟩ < 18446744073709551616 := by
    unfold toM; split <;> exact h _
  match t, h1, h3, hm with
  | 0, _, _, _ => exact ho'
  | 8, _, _, _ => exact ho'
  | 9, _, _, _ => exact ho'
  | k + 16, h1, _, _ => omega
  | 1, _, h3, hm =>
    have h3 := h3
    unfold toO
    simp only []
    repeat' split
    all_goals exact tok (by omega) (by first | exact h2 | exact hm) (fun a b => by first | exact h3 (by omega) (by omega) | omega) (fun a => by first | omega | decide)
  | 2, _, h3, hm =>
    have h3 := h3
    unfold toO
    simp only []
    repeat' split
    all_goals exact tok (by omega) (by first | exact h2 | exact hm) (fun a b => by first | exact h3 (by omega) (by omega) | omega) (fun a => by first | omega | decide)
  | 3, _, h3, hm =>
    have h3 := h3
    unfold toO
    simp only []
    repeat' split
    all_goals exact tok (by omega) (by first | exact h2 | exact hm) (fun a b => by first | exact h3 (by omega) (by omega) | omega) (fun a => by first | omega | decide)
  | 4, _, h3, hm =>
    have h3 := h3
    unfold toO
    simp only []
    repeat' split
    all_goals exact tok (by omega) (by first | exact h2 | exact hm) (fun a b => by first | exact h3 (by omega) (by omega) | omega) (fun a => by first | omega | decide)
  | 5, _, h3, hm =>
    have h3 := h3
    unfold toO
    simp only []
    repeat' split
    all_goals exact tok (by omega) (by first | exact h2 | exact hm) (fun a b => by first | exact h3 (by omega) (by omega) | omega) (fun a => by first | omega | decide)
  | 6, _, h3, hm =>
    have h3 := h3
    unfold toO
    simp only []
    repeat' split
    all_goals exact tok (by omega) (by first | exact h2 | exact hm) (fun a b => by first | exact h3 (by omega) (by omega) | omega) (fun a => by first | omega | decide)
  | 7, _, h3, hm =>
    have h3 := h3
    unfold toO
    simp only []
    repeat' split
    all_goals exact tok (by omega) (by first | exact h2 | exact hm) (fun a b => by first | exact h3 (by omega) (by omega) | omega) (fun a => by first | omega | decide)
  | 10, _, h3, hm =>
    have h3 := h3
    unfold toO
    simp only []
    repeat' split
    all_goals exact tok (by omega) (by first | exact h2 | exact hm) (fun a b => by first | exact h3 (by omega) (by omega) | omega) (fun a => by first | omega | decide)
  | 11, _, h3, hm =>
    have h3 := h3
    unfold toO
    simp only []
    repeat' split
    all_goals exact tok (by omega) (by first | exact h2 | exact hm) (fun a b => by first | exact h3 (by omega) (by omega) | omega) (fun a => by first | omega | decide)
  | 12, _, h3, hm =>
    have h3 := h3
    unfold toO
    simp only []
    repeat' split
    all_goals exact tok (by omega) (by first | exact h2 | exact hm) (fun a b => by first | exact h3 (by omega) (by omega) | omega) (fun a => by first | omega | decide)
  | 13, _, h3, hm =>
    have h3 := h3
    unfold toO
    simp only []
    repeat' split
    all_goals exact tok (by omega) (by first | exact h2 | exact hm) (fun a b => by first | exact h3 (by omega) (by omega) | omega) (fun a => by first | omega | decide)
  | 14, _, h3, hm =>
    have h3 := h3
    unfold toO
    simp only []
    repeat' split
    all_goals exact tok (by omega) (by first | exact h2 | exact hm) (fun a b => by first | exact h3 (by omega) (by omega) | omega) (fun a => by first | omega | decide)
  | 15, _, h3, hm =>
    have h3 := h3
    unfold toO
    simp only []
    repeat' split
    all_goals exact tok (by omega) (by first | exact h2 | exact hm) (fun a b => by first | exact h3 (by omega) (by omega) | omega) (fun a => by first | omega | decide)
def tpDo (x : GX TO) (j : Nat) (o : TO) : GX TO := gPut x (toS x.S o) (toR x.R o) j (toO x.S o)
def tpNewJ (w : Int) : TO := if w < 0 then ⟨0, 0, 0, 1, IntKind.u64.wrap (IntKind.u64.wrap w + 1), 0, 0, 0, -1, 0⟩ else ⟨1, 0, 0, 0, IntKind.u64.wrap (IntKind.u64.wrap w + 1), 0, 0, 0, -1, 0⟩
def tpNewL (w : Int) : TO := if w < 0 ∨ 15 < w then ⟨9, 0, 0, 1, 0, 0, 0, 0, w, 0⟩ else ⟨10, IntKind.i64.wrap (w.tdiv 4), 0, 0, 0, 0, 0, 0, w, w⟩
theorem tpNewJ_ok {w : Int} (hw : w < 9223372036854775808) : ToOk (tpNewJ w) := by
  unfold tpNewJ
  split
  · exact tok (by omega) z0 (fun a => by omega) (fun _ => by decide)
  · refine tok (by omega) z0 (fun _ _ => ?_) (fun a => by omega)
    rw [u64w (x := w) (by omega) (by omega), u64w (by omega) (by omega)]
    omega
theorem tpNewL_ok (w : Int) : ToOk (tpNewL w) := by
  unfold tpNewL
  split
  · exact tok (by omega) z0 (fun a b => by omega) (fun a => by omega)
  · exact tok (by omega) z0 (fun a b => by omega) (fun a => by omega)
def tpStep (r : Nat → AV) (x : GX TO) : GX TO :=
  if (avInt (r 0)).tmod 6 = 0 then gAdd x (tpNewJ (avInt (r 1)))
  else if (avInt (r 0)).tmod 6 = 1 then gAdd x (tpNewL (avInt (r 1)))
  else if (avInt (r 0)).tmod 6 = 2 then gSto x (avInt (r 2)) (avInt (r 3)) (avInt (r 4)) (avInt (r 5))
  else if x.n = 0 then x else tpDo x (jX r x.n) (x.O (jX r x.n))
def tpN (f h : Nat → Nat → AV) (q : Nat) : Nat → GX TO
  | 0 => ⟨msN (bgW h) q, rsN (bgW h) q, 0, fun _ => tpNewL (-1)⟩
  | n + 1 => tpStep (f n) (tpN f h q n)
theorem tpStep_ok {r : Nat → AV} {x : GX TO} {i q : Nat} (h : GIv ToOk x i q) (hr : (0 ≤ avInt (r 5) ∧ avInt (r 5) < 18446744073709551616) ∧ avInt (r 1) < 9223372036854775808) : GIv ToOk (tpStep r x) (i + 1) q := by
  unfold tpStep
  repeat' split
  · exact h.add (tpNewJ_ok hr.2)
  · exact h.add (tpNewL_ok _)
  · exact h.sto _ _ _ hr.1
  · exact h.idle
  · exact h.put (to_mem h.f (h.o _)) _ (to_ok h.f.u (h.o _))
theorem tpN_ok {f h : Nat → Nat → AV} {q : Nat} (hq : U64 (msN (bgW h) q)) : ∀ i, (∀ k, k < i → (0 ≤ avInt (f k 5) ∧ avInt (f k 5) < 18446744073709551616) ∧ avInt (f k 1) < 9223372036854775808) → GIv ToOk (tpN f h q i) i q
  | 0, _ => ⟨⟨fineN (bgW h) q, hq⟩, Nat.le_refl _, fun j => (tpNewL_ok (-1) : ToOk (tpNewL (-1)))⟩
  | i + 1, hr => tpStep_ok (tpN_ok hq i (fun k hk => hr k (by omega))) (hr i (by omega))
end Go.Proofs.YtlpcdjhojfopjaaGreatDoor
