/-
  The iterator of the words, walked.
-/
import Derived.Test.YtmlfmmnnbdlabaaDoorQYe
import Derived.Sort.QuietTacIn
import Derived.WalkSpells
set_option linter.unusedSimpArgs false
set_option linter.unusedVariables false
namespace Go.Proofs.YtmlfmmnnbdlabaaDoor
open Go Go.Proofs Go.RowKit Go.Shelf Go.Sort
attribute [local go_sem] Oper.semAt_some

/-- What a round of Words keeps: what lay below n1, and whatever cells are neither words nor a box of such. -/
structure Kw (n1 : Nat) (W W' : World) : Prop where
  size : W.heap.size ≤ W'.heap.size
  low : ∀ k, k < n1 → W'.heap[k]? = W.heap[k]?
  same : ∀ (k : Nat) c t fr, W.heap[k]? = some (.cells c t fr) → t ≠ 59 → t ≠ 83 → W'.heap[k]? = some (.cells c t fr)
theorem Kw.refl (n1 : Nat) (W : World) : Kw n1 W W := ⟨Nat.le_refl _, fun _ _ => rfl, fun _ _ _ _ h _ _ => h⟩
theorem Kw.trans {n1 : Nat} {A B C : World} (h : Kw n1 A B) (k : Kw n1 B C) : Kw n1 A C := ⟨Nat.le_trans h.size k.size, fun i hi => (k.low i hi).trans (h.low i hi), fun i c t fr e h1 h2 => k.same i c t fr (h.same i c t fr e h1 h2) h1 h2⟩
theorem Kw.alloc {n1 : Nat} (W : World) (hn : n1 ≤ W.heap.size) (o : Obj) : Kw n1 W (W.alloc o) :=
  ⟨by simp, fun k hk => Below.heap_alloc W o k (by omega), fun k c t fr e _ _ => (Below.heap_alloc W o k (Array.getElem?_eq_some_iff.1 e).1).trans e⟩
theorem Kw.putObj {n1 : Nat} (W : World) (l : Nat) (o o' : Obj) (hl : n1 ≤ l) (h : W.heap[l]? = some o) (hc : o.isCells = false) : Kw n1 W (W.putObj l o') :=
  ⟨(grownBy_putObj' W l o').size, fun k hk => World.putObj_heap_other (by omega), fun k c t fr e _ _ => (World.putObj_heap_other (fun q => by subst q; rw [h] at e; cases e; cases hc)).trans e⟩

/-- A word as a value. -/
def encW (x : (Int × Int × Int) × Int) : Value := .agg #[.int .u8 x.1.1, .int .i64 x.1.2.1, .int .i64 x.1.2.2, .int .u64 x.2]
def kA (x : Int × Int × Int) : List Int := [x.1, x.2.1, x.2.2]
open Go.Ev in
def vfA (f : List Int → Option Int) (x : Int × Int × Int) : Int := mget f (kA x)
def emA (f : List Int → Option Int) (l : List (Int × Int × Int)) : List ((Int × Int × Int) × Int) := l.filterMap (fun x => if vfA f x = 0 then none else some (x, vfA f x))
theorem emA_hit {f : List Int → Option Int} {l : List (Int × Int × Int)} {x : Int × Int × Int} (h : vfA f x ≠ 0) : emA f (l ++ [x]) = emA f l ++ [(x, vfA f x)] := by simp [emA, h]
theorem emA_miss {f : List Int → Option Int} {l : List (Int × Int × Int)} {x : Int × Int × Int} (h : vfA f x = 0) : emA f (l ++ [x]) = emA f l := by simp [emA, h]
theorem emA_len (f : List Int → Option Int) (l : List (Int × Int × Int)) : (emA f l).length ≤ l.length := List.length_filterMap_le _ _

open Go.Ev in
/-- A map that stands for f. -/
def MapIs (W : World) (b : Nat) (es : Array MapEntry) (clock : Nat) (f : List Int → Option Int) : Prop :=
  W.heap[b]? = some (.map es clock) ∧ BornOk es.toList clock ∧ MapRep [.int .u8, .int .i64, .int .i64] true .u64 es.toList f
open Go.Ev in
theorem lookup_raw {W : World} {b : Nat} {es : Array MapEntry} {clock : Nat} {f : List Int → Option Int} (h : MapIs W b es clock f) (x : Int × Int × Int) :
    (Instr.lookup 76 (.map (some b)) (.agg #[.int .u8 x.1, .int .i64 x.2.1, .int .i64 x.2.2]) false).run Tryd.prog W = .ok (.int .u64 (vfA f x)) W := by
  obtain ⟨h1, h2, h3⟩ := h
  have hk : mapKinds Tryd.prog 76 = some ([.int .u8, .int .i64, .int .i64], true, .u64) := by kernel_rfl
  have hr : HeapRep Tryd.prog (fun n => if n = 2 then some ⟨b, 0, 1, 1, false⟩ else none) [(2, .map 76 f)] W := by
    refine ⟨fun n o hn => ?_, fun n m o o' l l' hn hm hne => ?_⟩
    · rcases Nat.decEq n 2 with hn2 | hn2
      · have : Nat.beq 2 n = false := by rw [← Bool.not_eq_true, Nat.beq_eq]; exact fun e => hn2 e.symm
        simp [Ev.get, this] at hn
      · subst hn2
        simp [Ev.get] at hn
        subst hn
        exact ⟨_, rfl, rfl, by simp, _, _, _, hk, es, clock, h1, h2, h3⟩
    · have key : ∀ n o, Ev.get [(2, AO.map 76 f)] n = some o → n = 2 := by
        intro n o hn
        rcases Nat.decEq n 2 with hn2 | hn2
        · have : Nat.beq 2 n = false := by rw [← Bool.not_eq_true, Nat.beq_eq]; exact fun e => hn2 e.symm
          simp [Ev.get, this] at hn
        · exact hn2
      exact (hne ((key n o hn).trans (key m o' hm).symm)).elim
  obtain ⟨z, hz, hd⟩ := lookup_ok (P := Tryd.prog) (t := 76) (m := .map 2) (key := .agg [.sym .u8 x.1, .sym .i64 x.2.1, .sym .i64 x.2.2]) (r := .sym .u64 (vfA f x)) (ok := false) (h := ⟨[(2, .map 76 f)], 3, 4, [], [], [], false⟩) (M := .map (some b)) (K := .agg #[.int .u8 x.1, .int .i64 x.2.1, .int .i64 x.2.2]) (by kernel_rfl) hr (.inr (by simp [den])) (.inr (by simp [den, denL]))
  simp [den] at hd
  rw [hz, ← hd]

set_option maxRecDepth 100000 in
set_option maxHeartbeats 1000000 in
theorem there_in (F : Fence) (n : Nat) (h7 : F.fn 39) (hro : F.round = none) (b1 o1 : Nat) (b2 : Nat) (W : World) (hm : W.cell? ⟨b1, o1, none⟩ = some (.map (some b2))) :
    CallsIn F n Tryd.prog 39 #[.pointer (some ⟨b1, o1, none⟩)] W fun e w' => e = .returned (.bool true) ∧ w' = W := by
  refine callsIn_of_wp Tryd.func39 rfl h7 ?_ hro
  simp only [Tryd.ntmps39, List.size_toArray, List.length_cons, List.length_nil, Nat.reduceAdd, Nat.reduceSub, Array.replicate_succ, Array.replicate_zero, List.push_toArray, List.append_toArray, List.nil_append, List.cons_append]
  have qT := fun (w : World) (r : Option Nat) => run_neq_map_nil (P := Tryd.prog) w _ _ _ r Tryd.underlying76
  gi_wp2
  go_ret
  exact ⟨by simp, rfl⟩

theorem flA_get : ∀ (l : List (Int × Int × Int)) (k c : Nat) (x : Int × Int × Int), l[k]? = some x → c < 3 → (flA l)[k * 3 + c]? = (cA x)[c]?
  | [], k, c, x, h, _ => by simp at h
  | y :: r, 0, c, x, h, hc => by
    simp at h; subst h
    show (cA y ++ flA r)[0 * 3 + c]? = _
    rw [List.getElem?_append_left (by simp [cA]; omega)]
    simp
  | y :: r, k + 1, c, x, h, hc => by
    have := flA_get r k c x (by simpa using h) hc
    show (cA y ++ flA r)[(k + 1) * 3 + c]? = _
    rw [List.getElem?_append_right (by simp [cA]; omega), ← this]
    congr 1
    simp [cA]; omega

set_option maxRecDepth 100000 in
set_option maxHeartbeats 4000000 in
theorem each1_in (n : Nat) (hn : 10 ≤ n) (l Bm n1 b1 o1 b2 : Nat) (es : Array MapEntry) (clock : Nat) (f : List Int → Option Int) (hkey : ∀ e ∈ es.toList, ∃ x, e.key = encA x) (hsz : es.size ≤ 1000000) (J Jx : List ((Int × Int × Int) × Int) → World → Prop)
    (hY : ∀ pre x W, J pre W → pre.length < es.size → YieldAt Fence.wide (n - 1) Tryd.prog l #[encW x] W fun e W' =>
      (e = .returned (.bool true) ∧ J (pre ++ [x]) W' ∧ Kw n1 W W') ∨ (e = .returned (.bool false) ∧ Jx (pre ++ [x]) W'))
    (W : World) (hn1 : n1 ≤ W.heap.size) (hJ : AbidesFrom W.heap.size J) (hBm : W.heap[Bm]? = some (.cells #[.pointer (some ⟨b1, o1, none⟩)] 27 (0, 0))) (hb1 : b1 < n1) (hm : W.cell? ⟨b1, o1, none⟩ = some (.map (some b2))) (hb2 : b2 < n1) (hmap : MapIs W b2 es clock f) (h0 : J [] W) :
    CallsIn Fence.wide n Tryd.prog 38 #[.func (.yield l) #[] #[], .pointer (some ⟨Bm, 0, none⟩)] W fun e W' => (∃ v, e = .returned v) ∧
      ((∃ ys, (∃ ss : List (Int × Int × Int), (ss.map encA).Perm (es.toList.map (·.key)) ∧ ys = emA f (srtA ss)) ∧ J ys W') ∨ (∃ pre, True ∧ Jx pre W')) := by
  have hBml : Bm < W.heap.size := (Array.getElem?_eq_some_iff.1 hBm).1
  have hc0 : W.cell? ⟨Bm, 0, none⟩ = some (.pointer (some ⟨b1, o1, none⟩)) := by simp [World.cell?, hBm]
  have h1 : 1 ≤ n := by omega
  have hborn : ∀ e ∈ es.toList, e.born < clock := hmap.2.1.1
  have hnd := hmap.2.1.2
  refine callsIn_of_wp Tryd.func38 rfl trivial ?_ rfl
  simp only [Tryd.ntmps38, List.size_toArray, List.length_cons, List.length_nil, Nat.reduceAdd, Nat.reduceSub, Array.replicate_succ, Array.replicate_zero, List.push_toArray, List.append_toArray, List.nil_append, List.cons_append]
  have f124 : Fence.wide.fn 41 := trivial
  have f123 : Fence.wide.fn 40 := trivial
  have f121 : Fence.wide.fn 39 := trivial
  gi_wp2_with (first
    | (gi_at_call 39; refine (there_in Fence.wide (n - 1) trivial rfl b1 o1 b2 _ hm).mono ?_; rintro e w' ⟨rfl, hw⟩; rw [hw])
    | (gi_at_call 41; refine (keys_in Fence.wide (n - 1) trivial rfl _ _).mono ?_; rintro e w' ⟨rfl, rfl⟩))
  have hsrt := sorted_in (n - 1) (by omega) 47 #[.pointer (some ⟨W.heap.size, 0, none⟩)] (enters_of Tryd.func47 (by kernel_rfl) rfl) (fun ss => (ss.map encA).Perm (es.toList.map (·.key))) es.size hsz (fun ss h => by have := h.length_eq; simp at this; omega) (W.alloc (.cells #[.map (some b2)] 76)) (keys_stops Fence.wide (n - 1 - 1 - 1 - 1) trivial rfl (by omega) W.heap.size b2 es clock hborn hnd hkey _ (by simp) (by have := World.alloc_heap_new W (.cells #[.map (some b2)] 76); unfold World.cell?; simp only [this]; rfl) ((Below.heap_alloc W _ b2 (by omega)).trans hmap.1))
  refine hsrt.mono ?_
  rintro e W1 ⟨v, ss, rfl, hS, hrow, hnil, hb⟩
  have hg1 : W.grownBy W1 none := ⟨hb.os, hb.tape, hb.output, by have := hb.size; simp at this; omega, fun k hk _ => (hb.block k (by simp; omega)).trans (Below.heap_alloc W _ k hk)⟩
  have hJ1 : J [] W1 := hJ [] W W1 none h0 hg1 (fun r e => by cases e)
  have hk1 : Kw n1 W W1 := ⟨hg1.size, fun k hk => hg1.block k (by omega) (by simp), fun k c t fr e _ _ => (hg1.block k (Array.getElem?_eq_some_iff.1 e).1 (by simp)).trans e⟩
  have hfacts : ∀ W2, Kw n1 W1 W2 → W2.cell? ⟨Bm, 0, none⟩ = some (.pointer (some ⟨b1, o1, none⟩)) ∧ W2.cell? ⟨b1, o1, none⟩ = some (.map (some b2)) ∧ MapIs W2 b2 es clock f := fun W2 h2 => by
    have h := hk1.trans h2
    refine ⟨?_, ?_, (h.low b2 hb2).trans hmap.1, hmap.2⟩
    · have := h.same Bm _ _ _ hBm (by decide) (by decide)
      simp [World.cell?, this]
    · have := h.low b1 hb1
      unfold World.cell? at hm ⊢
      simp only [this]; exact hm
  have hJa : ∀ ys W2 o, Kw n1 W1 W2 → J ys W2 → J ys (W2.alloc o) := fun ys W2 o _ hj => hJ ys W2 _ none hj (World.grownBy_alloc W2 _ none) (fun r e => by cases e)
  clear hsrt h0
  rcases hrow.2 with ⟨rfl, hz⟩ | ⟨gb, cap, cur, rfl, hbase, hgb, r1, r2, r3, r4⟩
  · have hss : ss = [] := List.eq_nil_of_length_eq_zero hz
    subst hss
    gi_wp2
    gi_loopw [16] (fun i wr => i = .int .i64 0 ∧ J [] wr) (fun _ _ => 0)
    case atStart => exact ⟨rfl, hJ1⟩
    case round =>
      obtain ⟨rfl, hJs⟩ := hrel
      gi_wp2
      go_end0
      exact ⟨⟨_, rfl⟩, .inl ⟨_, ⟨[], hS, rfl⟩, by simpa [srtA, emA] using hJs⟩⟩
  · have hsl : (srtA ss).length = ss.length := (srtA_perm ss).length_eq
    have hles : ss.length = es.size := by have := hS.length_eq; simpa using this
    have hle6 : ss.length ≤ 1000000 := by omega
    gi_wp2
    gi_loopw [16] (fun i wr => ∃ k : Nat, k ≤ ss.length ∧ i = .int .i64 k ∧ J (emA f ((srtA ss).take k)) wr ∧ Kw n1 W1 wr) (fun i _ => ss.length - (intOf i).toNat)
    case atStart => exact ⟨0, Nat.zero_le _, rfl, by simpa [emA] using hJ1, Kw.refl _ _⟩
    case round =>
      obtain ⟨k, hk, rfl, hJs, hkw⟩ := hrel
      obtain ⟨hcBm, hcm, hcmap⟩ := hfacts wr hkw
      by_cases hlt : k < ss.length
      · obtain ⟨x, hx⟩ : ∃ x, (srtA ss)[k]? = some x := ⟨_, List.getElem?_eq_getElem (by omega)⟩
        have htk : (srtA ss).take (k + 1) = (srtA ss).take k ++ [x] := by
          rw [List.take_add_one, hx]; rfl
        have hrowk := hkw.same gb _ _ _ hgb (by decide) (by decide)
        have hcell : ∀ c v, c < 3 → (cA x)[c]? = some v → wr.cell? ⟨gb, k * 3 + c, none⟩ = some v := fun c v hc hv => by
          have h6 : (cur.toList.take (ss.length * 3))[k * 3 + c]? = (flA (srtA ss))[k * 3 + c]? := by rw [r4]
          rw [List.getElem?_take_of_lt (by omega), flA_get _ k c x hx hc, hv, Array.getElem?_toList] at h6
          simp [World.cell?, hrowk, h6]
        have c0 : wr.cell? ⟨gb, k * 3, none⟩ = some (.int .u8 x.1) := hcell 0 _ (by decide) rfl
        have c1 : wr.cell? ⟨gb, k * 3 + 1, none⟩ = some (.int .i64 x.2.1) := hcell 1 _ (by decide) rfl
        have c2 : wr.cell? ⟨gb, k * 3 + 2, none⟩ = some (.int .i64 x.2.2) := hcell 2 _ (by decide) rfl
        have hnw : n1 ≤ wr.heap.size := Nat.le_trans (Nat.le_trans hn1 hg1.size) hkw.size
        have hkw2 := hkw.trans (Kw.alloc wr hnw (.cells #[.int .u8 x.1, .int .i64 x.2.1, .int .i64 x.2.2] 42))
        gi_wp2
        obtain ⟨w2, hw2⟩ : ∃ w2, wr.alloc (.cells #[.int .u8 x.1, .int .i64 x.2.1, .int .i64 x.2.2] 42) = w2 := ⟨_, rfl⟩
        have hn2 := World.alloc_heap_new wr (.cells #[.int .u8 x.1, .int .i64 x.2.1, .int .i64 x.2.2] 42)
        have hJ2 : J (emA f ((srtA ss).take k)) w2 := by rw [← hw2]; exact hJa _ wr _ hkw hJs
        rw [hw2] at hkw2 hn2 ⊢
        obtain ⟨dBm, dm, dmap⟩ := hfacts w2 hkw2
        have e0 : w2.cell? ⟨wr.heap.size, 0, none⟩ = some (.int .u8 x.1) := by unfold World.cell?; simp only [hn2]; rfl
        have e1 : w2.cell? ⟨wr.heap.size, 1, none⟩ = some (.int .i64 x.2.1) := by unfold World.cell?; simp only [hn2]; rfl
        have e2 : w2.cell? ⟨wr.heap.size, 2, none⟩ = some (.int .i64 x.2.2) := by unfold World.cell?; simp only [hn2]; rfl
        have hlook : ∀ q, (Instr.lookup 76 (.map (some b2)) (.agg #[.int .u8 x.1, .int .i64 x.2.1, .int .i64 x.2.2]) false).run Tryd.prog (w2.drewN q) = .ok (.int .u64 (vfA f x)) (w2.drewN q) := fun q => lookup_raw (W := w2.drewN q) dmap x
        gi_quiet_th (fail)
        have hg3 : w2.grownBy (w2.drewN nq) none := ⟨rfl, rfl, rfl, Nat.le_refl _, fun _ _ _ => rfl⟩
        have hJ3 : J (emA f ((srtA ss).take k)) (w2.drewN nq) := hJ _ w2 _ none hJ2 hg3 (fun r e => by cases e)
        have hkw3 : Kw n1 W1 (w2.drewN nq) := hkw2.trans ⟨Nat.le_refl _, fun _ _ => rfl, fun _ _ _ _ e _ _ => e⟩
        have g0 : (w2.drewN nq).cell? ⟨wr.heap.size, 0, none⟩ = some (.int .u8 x.1) := e0
        have g1 : (w2.drewN nq).cell? ⟨wr.heap.size, 1, none⟩ = some (.int .i64 x.2.1) := e1
        have g2 : (w2.drewN nq).cell? ⟨wr.heap.size, 2, none⟩ = some (.int .i64 x.2.2) := e2
        obtain ⟨w3, hw3⟩ : ∃ w3, w2.drewN nq = w3 := ⟨_, rfl⟩
        rw [hw3] at hJ3 hkw3 g0 g1 g2 ⊢
        clear hlook e0 e1 e2 hg3 hw3
        by_cases hz : vfA f x = 0
        · have hs : emA f ((srtA ss).take (k + 1)) = emA f ((srtA ss).take k) := by rw [htk]; exact emA_miss hz
          rw [hz]
          gi_wp2
          refine ⟨fun f e => (by cases e), ?_⟩
          gi_wp2
          go_roundw
          case rel => exact ⟨k + 1, by omega, by simp, by rw [hs]; exact hJ3, hkw3⟩
          case measure => simp [intOf]; omega
        · have hs : emA f ((srtA ss).take (k + 1)) = emA f ((srtA ss).take k) ++ [(x, vfA f x)] := by rw [htk]; exact emA_hit hz
          have hb0 : (vfA f x != 0) = true := by simp [hz]
          obtain ⟨fn, tmps, assign, body, hy, hR⟩ := hY _ (x, vfA f x) w3 hJ3 (by have := emA_len f ((srtA ss).take k); rw [List.length_take] at this; omega)
          unfold encW at hy
          gi_wp2
          refine hR.mono ?_
          rintro en W3 (⟨rfl, hJ4, hk4⟩ | ⟨rfl, hJx4⟩)
          · gi_wp2
            go_roundw
            case rel => exact ⟨k + 1, by omega, by simp, by rw [hs]; exact hJ4, hkw3.trans hk4⟩
            case measure => simp [intOf]; omega
          · gi_wp2
            refine bodyPost_ret (results_none rfl _ _ _) rfl ?_
            exact ⟨⟨_, rfl⟩, .inr ⟨_, trivial, hJx4⟩⟩
      · obtain rfl : k = ss.length := by omega
        gi_wp2
        go_end0
        refine ⟨⟨_, rfl⟩, .inl ⟨_, ⟨ss, hS, rfl⟩, ?_⟩⟩
        have : (srtA ss).take ss.length = srtA ss := List.take_of_length_le (by omega)
        rw [this] at hJs; exact hJs
end Go.Proofs.YtmlfmmnnbdlabaaDoor
