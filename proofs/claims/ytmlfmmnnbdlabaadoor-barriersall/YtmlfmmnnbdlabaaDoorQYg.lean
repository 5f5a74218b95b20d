/-
  Words, walked.
-/
import Derived.Test.YtmlfmmnnbdlabaaDoorQYf
set_option linter.unusedSimpArgs false
set_option linter.unusedVariables false
namespace Go.Proofs.YtmlfmmnnbdlabaaDoor
open Go Go.Proofs Go.RowKit Go.Shelf Go.Sort
attribute [local go_sem] Oper.semAt_some

theorem results_box {P : Program} {fn : Func} {p : Tmp} {ty e : TypeId} (h : fn.results = #[.cell p ty]) (tmps : Array Value) (w : World) {B : Nat} {v : Value} (hp : tmps.getD p undef = .pointer (some ⟨B, 0, none⟩)) (hc : w.cell? ⟨B, 0, none⟩ = some v) (hu : P.underlying ty = some (.slice e)) :
    (results fn tmps).run P w = .ok v w := by
  have hp' : tmps[p]?.getD undef = .pointer (some ⟨B, 0, none⟩) := by simpa using hp
  have hi : (isAgg ty).run P w = .ok false w := by simp [isAgg, underlying, Sem.run_bind, Sem.run, hu, Result.andThen]
  simp [results, h, hp', asAddr, loadVar, Sem.run_bind, hi, Result.andThen, hc]
/-- What is asked of a memory in the world. -/
structure MemAt (n1 : Nat) (W : World) (b1 o1 b2 : Nat) (es : Array MapEntry) (clock : Nat) (f : List Int → Option Int) : Prop where
  lt1 : b1 < n1
  cell : W.cell? ⟨b1, o1, none⟩ = some (.map (some b2))
  lt2 : b2 < n1
  map : MapIs W b2 es clock f
  key : ∀ e ∈ es.toList, ∃ x, e.key = encA x
  size : es.size ≤ 1000000
theorem MemAt.below {n1 : Nat} {W W' : World} {b1 o1 b2 : Nat} {es : Array MapEntry} {clock : Nat} {f : List Int → Option Int} (h : MemAt n1 W b1 o1 b2 es clock f) (hB : Below n1 W W') : MemAt n1 W' b1 o1 b2 es clock f :=
  ⟨h.lt1, (hB.cell (p := ⟨b1, o1, none⟩) h.lt1).trans h.cell, h.lt2, ⟨(hB.block b2 h.lt2).trans h.map.1, h.map.2⟩, h.key, h.size⟩

theorem each_stops (n : Nat) (hn : 10 ≤ n) (Bm n1 b1 o1 b2 : Nat) (es : Array MapEntry) (clock : Nat) (f : List Int → Option Int) (w : World) (hn1 : n1 ≤ w.heap.size) (hm : MemAt n1 w b1 o1 b2 es clock f) (hBm : w.heap[Bm]? = some (.cells #[.pointer (some ⟨b1, o1, none⟩)] 27 (0, 0))) :
    SeqStopsK Fence.wide n Tryd.prog 38 #[.pointer (some ⟨Bm, 0, none⟩)] (fun x => #[encW x]) (Kw n1) (fun ys => ∃ ss : List (Int × Int × Int), (ss.map encA).Perm (es.toList.map (·.key)) ∧ ys = emA f (srtA ss)) (fun _ => True) es.size w := fun l J Jx W hW hJ _ hY h0 => by
  have hm2 := hm.below (hW.mono hn1)
  exact each1_in n hn l Bm n1 b1 o1 b2 es clock f hm.key hm.size J Jx hY W (Nat.le_trans hn1 hW.size) hJ ((hW.block Bm (Array.getElem?_eq_some_iff.1 hBm).1).trans hBm) hm.lt1 hm2.cell hm.lt2 hm2.map h0

set_option maxRecDepth 100000 in
set_option maxHeartbeats 1000000 in
theorem each_in (F : Fence) (n : Nat) (h7 : F.fn 31) (hro : F.round = none) (p : Option Addr) (w : World) :
    CallsIn F n Tryd.prog 31 #[.pointer p] w fun e w' => e = .returned (.func (.func 38) #[] #[.pointer (some ⟨w.heap.size, 0, none⟩)]) ∧ w' = w.alloc (.cells #[.pointer p] 27) := by
  refine callsIn_of_wp Tryd.func31 rfl h7 ?_ hro
  simp only [Tryd.ntmps31, List.size_toArray, List.length_cons, List.length_nil, Nat.reduceAdd, Nat.reduceSub, Array.replicate_succ, Array.replicate_zero, List.push_toArray, List.append_toArray, List.nil_append, List.cons_append]
  gi_wp2
  go_ret
  exact ⟨rfl, rfl⟩

set_option maxHeartbeats 1000000 in
theorem clipW_in (F : Fence) (n : Nat) (h5 : F.fn 32) (hro : F.round = none) (g m c : Nat) (hmc : m ≤ c) (hm : 0 < m) (w : World) :
    CallsIn F n Tryd.prog 32 #[.slice (some ⟨g, 0, none⟩) m c] w fun e w' => e = .returned (.slice (some ⟨g, 0, none⟩) m m) ∧ w' = w := by
  refine callsIn_of_wp Tryd.func32 rfl h5 ?_ hro
  simp only [Tryd.ntmps32, List.size_toArray, List.length_cons, List.length_nil, Nat.reduceAdd, Nat.reduceSub, Array.replicate_succ, Array.replicate_zero, List.push_toArray, List.append_toArray, List.nil_append, List.cons_append]
  gi_wp2
  go_ret
  exact ⟨by simp, rfl⟩
set_option maxHeartbeats 1000000 in
theorem clipW_nil (F : Fence) (n : Nat) (h5 : F.fn 32) (hro : F.round = none) (w : World) :
    CallsIn F n Tryd.prog 32 #[.slice none 0 0] w fun e w' => e = .returned (.slice none 0 0) ∧ w' = w := by
  refine callsIn_of_wp Tryd.func32 rfl h5 ?_ hro
  simp only [Tryd.ntmps32, List.size_toArray, List.length_cons, List.length_nil, Nat.reduceAdd, Nat.reduceSub, Array.replicate_succ, Array.replicate_zero, List.push_toArray, List.append_toArray, List.nil_append, List.cons_append]
  gi_wp2
  go_ret
  exact ⟨by simp, rfl⟩

def cW (x : (Int × Int × Int) × Int) : List Value := [.int .u8 x.1.1, .int .i64 x.1.2.1, .int .i64 x.1.2.2, .int .u64 x.2]
def flW (l : List ((Int × Int × Int) × Int)) : List Value := l.flatMap cW
theorem info47 : (Tryd.prog.info? 83).map (fun i => (i.zero, i.size, i.bytes)) = some (some (.agg #[.int .u8 0, .int .i64 0, .int .i64 0, .int .u64 0]), 4, 32) := by kernel_rfl

theorem Kw.appended {n1 : Nat} {W w1 : World} {B : Nat} {v v' : Value} {k : Nat} {xs : List Value} {tmp : Obj} (hrow : W.ownsRow n1 83 4 v k xs) (hv : Boxed W B 59 v) (hgrow : (W.alloc tmp).grownBy w1 v.ownBlock) (hn : n1 ≤ W.heap.size) (hB : n1 ≤ B) : Kw n1 W (w1.setCell ⟨B, 0, none⟩ v') := by
  have hown : ∀ j, some j = v.ownBlock → n1 ≤ j ∧ ∃ cur, W.heap[j]? = some (.cells cur 83 (0, 0)) := fun j hj => by
    rcases hrow.2 with ⟨rfl, _⟩ | ⟨g, cap, cur, rfl, hb, hgb, _⟩
    · simp [Value.ownBlock] at hj
    · obtain rfl : j = g := by simpa [Value.ownBlock] using hj
      exact ⟨hb, cur, hgb⟩
  have hs1 : W.heap.size ≤ w1.heap.size := by have := hgrow.size; simp at this; omega
  have one : ∀ k, k < W.heap.size → some k ≠ v.ownBlock → k ≠ B → (w1.setCell ⟨B, 0, none⟩ v').heap[k]? = W.heap[k]? := fun k hk h1 h2 =>
    ((Below.heap_setCell w1 ⟨B, 0, none⟩ v' k h2).trans (hgrow.block k (by simp; omega) h1)).trans (Below.heap_alloc W tmp k hk)
  refine ⟨?_, fun k hk => one k (by omega) (fun e => by have := (hown k e).1; omega) (by omega), fun k c t fr e h1 h2 => ?_⟩
  · have := (grownBy_setCell' w1 B v').size; omega
  · have hk := (Array.getElem?_eq_some_iff.1 e).1
    refine (one k hk (fun q => ?_) (fun q => ?_)).trans e
    · obtain ⟨cur, hc⟩ := (hown k q).2
      rw [hc] at e; cases e; exact h2 rfl
    · subst q
      rw [show W.heap[k]? = _ from hv] at e; cases e; exact h1 rfl

set_option maxRecDepth 100000 in
set_option maxHeartbeats 4000000 in
theorem Words_in (n : Nat) (hn : 12 ≤ n) (b1 o1 b2 : Nat) (es : Array MapEntry) (clock : Nat) (f : List Int → Option Int) (w : World) (hm : MemAt w.heap.size w b1 o1 b2 es clock f) :
    CallsIn Fence.wide n Tryd.prog 21 #[.pointer (some ⟨b1, o1, none⟩)] w fun e W' => ∃ v ss, e = .returned v ∧ (ss.map encA).Perm (es.toList.map (·.key)) ∧
      ((v = .slice none 0 0 ∧ emA f (srtA ss) = []) ∨ ∃ g cap cur, v = .slice (some ⟨g, 0, none⟩) (emA f (srtA ss)).length (emA f (srtA ss)).length ∧ w.heap.size ≤ g ∧ emA f (srtA ss) ≠ [] ∧ W'.heap[g]? = some (.cells cur 83 (0, 0)) ∧ (emA f (srtA ss)).length ≤ cap ∧ cur.size = cap * 4 ∧ cur.toList.take ((emA f (srtA ss)).length * 4) = flW (emA f (srtA ss))) ∧ Below w.heap.size w W' := by
  have h1 : 1 ≤ n := by omega
  obtain ⟨i0, hi, hz0, hz1, hz2⟩ := info_parts info47
  refine callsIn_of_wp_marks Tryd.func21 rfl trivial ?_ rfl
  simp only [Tryd.ntmps21, List.size_toArray, List.length_cons, List.length_nil, Nat.reduceAdd, Nat.reduceSub, Array.replicate_succ, Array.replicate_zero, List.push_toArray, List.append_toArray, List.nil_append, List.cons_append]
  have f79 : Fence.wide.fn 31 := trivial
  have f80 : Fence.wide.fn 32 := trivial
  gi_wp2_with (gi_at_call 31; refine (each_in Fence.wide (n - 1) trivial rfl _ _).mono ?_; rintro e w' ⟨rfl, rfl⟩)
  have bO := (Boxed.new w 59 (.slice none 0 0)).alloc (.cells #[.pointer (some ⟨b1, o1, none⟩)] 27)
  have hN := World.alloc_heap_new (w.alloc (.cells #[.slice none 0 0] 59)) (.cells #[.pointer (some ⟨b1, o1, none⟩)] 27)
  rw [World.size_alloc] at hN
  have hB0 : Below w.heap.size w ((w.alloc (.cells #[.slice none 0 0] 59)).alloc (.cells #[.pointer (some ⟨b1, o1, none⟩)] 27)) := ((Below.refl _ w).alloc (Nat.le_refl _) _).alloc (by simp) _
  obtain ⟨W0, hW0⟩ : ∃ W0, (w.alloc (.cells #[.slice none 0 0] 59)).alloc (.cells #[.pointer (some ⟨b1, o1, none⟩)] 27) = W0 := ⟨_, rfl⟩
  have hs0 : W0.heap.size = w.heap.size + 1 + 1 := by rw [← hW0]; simp
  rw [hW0] at bO hN hB0 ⊢
  refine wpIn_rangeFunc_ownH rfl h1 (gf := 38) (lb := #[.pointer (some ⟨w.heap.size + 1, 0, none⟩)]) rfl trivial (enters_of Tryd.func38 (by kernel_rfl) rfl)
    (each_stops (n - 1) (by omega) (w.heap.size + 1) w.heap.size b1 o1 b2 es clock f W0 (by omega) (hm.below hB0) hN) Kw.trans (fun W l o o' hl h hc _ => Kw.putObj W l o o' (by omega) h hc) (Below.refl _ _) (fun _ => rfl)
    (fun pre W => (∃ v, Boxed W w.heap.size 59 v ∧ W.ownsRow w.heap.size 83 4 v pre.length (flW pre) ∧ (v = .slice none 0 0 ↔ pre = [])) ∧ Below w.heap.size w W)
    (fun _ _ _ => False)
    (OwnFrom.and (Own.from (holdsRow_own w.heap.size w.heap.size 59 83 4 (fun pre => pre.length) (fun pre => flW pre) (fun pre v => v = .slice none 0 0 ↔ pre = [])) _) (ownFrom_below (Nat.le_refl _) (by omega)))
    (fun _ _ _ _ _ hs _ _ => hs)
    ⟨⟨_, bO, World.ownsRow_nil _ _ _ _, by simp⟩, hB0⟩
    (fun x a' W => ∃ Bx, w.heap.size < Bx ∧ Cels W Bx 83 (cW x) ∧ a' = { tmps := #[.pointer (some ⟨b1, o1, none⟩), undef, .pointer (some ⟨w.heap.size, 0, none⟩), .pointer (some ⟨Bx, 0, none⟩), .pointer (some ⟨b1, o1, none⟩), .func (.func 38) #[] #[.pointer (some ⟨w.heap.size + 1, 0, none⟩)], encW x, undef, undef, undef, undef, undef, undef], defers := [] })
    (fun x a' _ X Y row hs hg hr => by obtain ⟨Bx, h1, h2, h3⟩ := hs; exact ⟨Bx, h1, cels_own Bx 83 (fun (_ : Unit) => cW x) () X Y row h2 hg (fun r e => (hr r e).2), h3⟩)
    ?assign ?body ?done ?stop
  case assign =>
    rintro l pre x W K ⟨⟨v, hv, hrow, hnil⟩, hB⟩ hK
    unfold encW at hK ⊢
    gi_wp2
    exact hK _ _ ((KeepsOthers.alloc _ _).from _) (Kw.alloc W hB.size _) ⟨⟨v, hv.alloc _, hrow.alloc _, hnil⟩, hB.alloc hB.size _⟩ ⟨W.heap.size, hv.lt, World.alloc_heap_new W _, rfl⟩
  case body =>
    rintro l pre x a' W hl ⟨r, hr⟩ ⟨⟨v, hv, hrow, hnil⟩, hB⟩ ⟨Bx, hBx, bX, rfl⟩ hlt
    have hc := hv.cell
    have c0 := bX.cell (j := 0) rfl
    have c1 := bX.cell (j := 1) rfl
    have c2 := bX.cell (j := 2) rfl
    have c3 := bX.cell (j := 3) rfl
    have hle6 := hm.size
    gi_wp2_with (gi_at_builtin; refine wpListIn_append_own _ rfl _ _ 59 rfl w.heap.size 83 i0 (.agg #[.int .u8 0, .int .i64 0, .int .i64 0, .int .u64 0]) 4 32 Tryd.underlying59 hi hz0 hz1 hz2 rfl (by decide) _ _ _ rfl (hrow.alloc _) ⟨W.heap.size, 0, none⟩ 1 1 (cW x) rfl rfl (cells_new W (cW x) 83) (by simp [cW, Value.oneCell']) (by simp [maxLen]; omega) (by omega) (by have := hB.size; simp; omega) ?_; intro v' w1 hown' hgrow _; obtain ⟨g', cap', rfl⟩ := ownsRow_succ hown'; obtain ⟨hv1, hv2, hr2, hk2, hb2⟩ := hv.appended (by decide) hrow hB.size (Nat.le_refl _) hown' hgrow; have hkw2 := fun u => Kw.appended (v' := u) hrow hv hgrow hB.size (Nat.le_refl _); have hc1 := hv1.cell; have hf1 := hv1.frozen)
    exact ⟨hk2.from _, hkw2 _, ⟨_, hv2, by simpa [flW] using hr2, by simp⟩, hB.trans hb2⟩
  case done =>
    rintro D ys W hD ⟨ss, hS, rfl⟩ ⟨⟨v, hv, hrow, hnil⟩, hB⟩ hK
    have hc := hv.cell
    have hf := hv.frozen
    have hK2 : ∀ u, (W.setCell ⟨w.heap.size, 0, none⟩ u).heap[D]? = some (.deferred (some [])) := fun u => (Below.heap_setCell _ _ _ D (by show D ≠ w.heap.size; omega)).trans hK
    have hB2 : ∀ u, Below w.heap.size w ((W.setCell ⟨w.heap.size, 0, none⟩ u).putObj D (.deferred none)) := fun u =>
      (hB.setCell (p := ⟨w.heap.size, 0, none⟩) (Nat.le_refl _) u).trans (belowK_b (w := w) (Nat.le_refl _) _ D _ _ (by omega) (hK2 u) rfl rfl)
    have hc2 : ∀ u, ((W.setCell ⟨w.heap.size, 0, none⟩ u).putObj D (.deferred none)).cell? ⟨w.heap.size, 0, none⟩ = some u := fun u =>
      ((hv.set u).kept (grownBy_putObj' _ D _) (by simp; omega)).cell
    have hg2 : ∀ u g o, W.heap[g]? = some o → g ≠ D → g ≠ w.heap.size → ((W.setCell ⟨w.heap.size, 0, none⟩ u).putObj D (.deferred none)).heap[g]? = some o := fun u g o hg h1 h2 =>
      (World.putObj_heap_other h1).trans ((Below.heap_setCell _ _ _ g (by show g ≠ w.heap.size; exact h2)).trans hg)
    generalize hem : emA f (srtA ss) = em at *
    rcases hrow.2 with ⟨rfl, hz⟩ | ⟨g, cap, cur, rfl, hg, hgb, r1, r2, r3, r4⟩
    · have hnn : em = [] := hnil.1 rfl
      clear hz hnil hrow
      gi_wp2_with (gi_at_call 32; refine (clipW_nil Fence.wide (n - 1) trivial rfl _).mono ?_; rintro e w' ⟨rfl, rfl⟩)
      exact ⟨by simp, .inl ⟨_, _, rfl, run_takeDeferred (b := D) (hK2 _), ⟨_, results_box rfl _ _ rfl (hc2 _) Tryd.underlying59, _, ss, rfl, hS, by rw [hem]; exact .inl ⟨rfl, hnn⟩, hB2 _⟩⟩⟩
    · have hpos : 0 < em.length := by
        refine List.length_pos_iff.2 (fun e => ?_)
        have := hnil.2 e
        cases this
      have hgD : g ≠ D := fun e => by rw [e, hK] at hgb; cases hgb
      have hgB : g ≠ w.heap.size := fun e => by
        rw [e, show W.heap[w.heap.size]? = _ from hv] at hgb
        simp at hgb
      have hne : em ≠ [] := List.length_pos_iff.1 hpos
      gi_wp2_with (gi_at_call 32; refine (clipW_in Fence.wide (n - 1) trivial rfl _ _ _ r1 hpos _).mono ?_; rintro e w' ⟨rfl, rfl⟩)
      exact ⟨by simp, .inl ⟨_, _, rfl, run_takeDeferred (b := D) (hK2 _), ⟨_, results_box rfl _ _ rfl (hc2 _) Tryd.underlying59, _, ss, rfl, hS, by rw [hem]; exact .inr ⟨g, cap, cur, rfl, hg, hne, hg2 _ g _ hgb hgD hgB, r1, r3, r4⟩, hB2 _⟩⟩⟩
  case stop =>
    rintro D c pre W _ _ h _
    exact h.elim
end Go.Proofs.YtmlfmmnnbdlabaaDoor
