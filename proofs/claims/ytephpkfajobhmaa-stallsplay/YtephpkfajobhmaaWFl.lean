/-
  Flagged, walked, as a contract.
-/
import Derived.Test.YtephpkfajobhmaaEvSplit
import Derived.Test.YtephpkfajobhmaaEvLoc2
import Derived.RangeFuncNested
import Derived.RangeFuncBound
import Derived.RangeFuncCalls
import Derived.RangeFuncLeaves
import Derived.RangeFuncBox
import Derived.Shelf.Abstract
import Derived.Shelf.RegionOpen
import Derived.WalkKit
import Derived.OwnWalkIn
import Derived.TacticsInMore
import Derived.LoopNIn
import Derived.LoopIn
import Derived.Maps.AppendAt
import Derived.Test.YtephpkfajobhmaaProg
set_option linter.unusedSimpArgs false
set_option linter.unusedVariables false
namespace Go.Proofs.Ytephpkfajobhmaa
open Go Go.Proofs Go.RowKit Go.Shelf
attribute [local go_sem] Oper.semAt_some

theorem results_box {P : Program} {fn : Func} {p : Tmp} {ty e : TypeId} (h : fn.results = #[.cell p ty]) (tmps : Array Value) (w : World) {B : Nat} {v : Value} (hp : tmps.getD p undef = .pointer (some ⟨B, 0, none⟩)) (hc : w.cell? ⟨B, 0, none⟩ = some v) (hu : P.underlying ty = some (.slice e)) :
    (results fn tmps).run P w = .ok v w := by
  have hp' : tmps[p]?.getD undef = .pointer (some ⟨B, 0, none⟩) := by simpa using hp
  have hi : (isAgg ty).run P w = .ok false w := by simp [isAgg, underlying, Sem.run_bind, Sem.run, hu, Result.andThen]
  simp [results, h, hp', asAddr, loadVar, Sem.run_bind, hi, Result.andThen, hc]
theorem h1_cells (a : Value) (h : a.oneCell' = true) : a.cells = #[a] := by cases a <;> simp_all [Value.oneCell', Value.cells]

def fl (th : Nat → Nat → Int) (k : Nat) : List Nat := (List.range k).filter (fun i => decide (th i 0 ≠ 0) && decide (th i 6 ≠ 0))
theorem fl_succ (th : Nat → Nat → Int) (k : Nat) : fl th (k + 1) = fl th k ++ (if th k 0 ≠ 0 ∧ th k 6 ≠ 0 then [k] else []) := by
  simp only [fl, List.range_succ, List.filter_append]
  congr 1
  by_cases h1 : th k 0 = 0 <;> by_cases h2 : th k 6 = 0 <;> simp [h1, h2]
theorem fl_len (th : Nat → Nat → Int) (k : Nat) : (fl th k).length ≤ k := by
  have := List.length_filter_le (fun i => decide (th i 0 ≠ 0) && decide (th i 6 ≠ 0)) (List.range k)
  simpa [fl] using this

set_option maxRecDepth 100000 in
set_option maxHeartbeats 2000000 in
theorem flagged1_in (F : Fence) (n : Nat) (h7 : F.fn 127) (hro : F.round = none) (hn : 1 ≤ n) (l Bs n₀ b off len cap : Nat) (ep : Int) (th : Nat → Nat → Int) (hreach : len ≤ 100000) (hb : 0 < len → b < n₀) (J Jx : List Nat → World → Prop)
    (hY : ∀ pre (x : Nat) W, J pre W → pre.length < len → YieldAt F (n - 1) Try.prog l #[.int .i64 x] W fun e W' =>
      (e = .returned (.bool true) ∧ J (pre ++ [x]) W' ∧ Below n₀ W W') ∨ (e = .returned (.bool false) ∧ Jx (pre ++ [x]) W'))
    (W : World) (hJ : AbidesFrom W.heap.size J) (hn₀ : n₀ ≤ W.heap.size) (hBs : W.cell? ⟨Bs, 0, none⟩ = some (.slice (some ⟨b, off, none⟩) len cap)) (hBs1 : W.cell? ⟨Bs, 1, none⟩ = some (.int .u64 ep)) (hc : ∀ j, j < len → ∀ c, c < 10 → W.cell? ⟨b, off + j * 10 + c, none⟩ = some (.int .u64 (th j c))) (h0 : J [] W) :
    CallsIn F n Try.prog 127 #[.func (.yield l) #[] #[], .pointer (some ⟨Bs, 0, none⟩)] W fun e W' => (∃ v, e = .returned v) ∧
      ((∃ ys, ys = fl th len ∧ J ys W') ∨ (∃ pre, True ∧ Jx pre W')) := by
  refine callsIn_of_wp Try.func127 rfl h7 ?_ hro
  simp only [Try.ntmps127, List.size_toArray, List.length_cons, List.length_nil, Nat.reduceAdd, Nat.reduceSub, Array.replicate_succ, Array.replicate_zero, List.push_toArray, List.append_toArray, List.nil_append, List.cons_append]
  gi_wp2
  gi_loopw [8] (fun i wr => ∃ k : Nat, k ≤ len ∧ i = .int .i64 k ∧ J (fl th k) wr ∧ Below n₀ W wr)
    (fun i _ => len - (intOf i).toNat)
  case atStart => exact ⟨0, Nat.zero_le _, rfl, h0, Below.refl _ _⟩
  case round =>
    obtain ⟨k, hk, rfl, hJs, hnx⟩ := hrel
    by_cases hlt : k < len
    · have hcx : ∀ c, c < 10 → wr.cell? ⟨b, off + k * 10 + c, none⟩ = some (.int .u64 (th k c)) := fun c h => (hnx.cell (p := ⟨b, off + k * 10 + c, none⟩) (hb (by omega))).trans (hc k hlt c h)
      have c0 := hcx 0 (by decide); have c1 := hcx 1 (by decide); have c2 := hcx 2 (by decide); have c3 := hcx 3 (by decide); have c4 := hcx 4 (by decide)
      have c5 := hcx 5 (by decide); have c6 := hcx 6 (by decide); have c7 := hcx 7 (by decide); have c8 := hcx 8 (by decide); have c9 := hcx 9 (by decide)
      simp only [Nat.add_zero] at c0
      have hJ2 : ∀ o, J (fl th k) (wr.alloc o) := fun o => hJ _ wr _ none hJs (World.grownBy_alloc wr _ none) (fun r e => by cases e)
      have hn2 : ∀ o, Below n₀ W (wr.alloc o) := fun o => hnx.alloc (Nat.le_trans hn₀ hnx.size) _
      by_cases h0 : th k 0 = 0
      · have hs : fl th (k + 1) = fl th k := by rw [fl_succ]; simp [h0]
        rw [h0] at c0
        gi_wp2
        refine ⟨fun f e => (by cases e), ?_⟩
        gi_wp2
        go_roundw
        case rel => exact ⟨k + 1, by omega, by simp, by rw [hs]; exact hJ2 _, hn2 _⟩
        case measure => simp [intOf]; omega
      · by_cases h6 : th k 6 = 0
        · have hs : fl th (k + 1) = fl th k := by rw [fl_succ]; simp [h6]
          rw [h6] at c6
          have g0 : (th k 0 != 0) = true := by simp [h0]
          gi_wp2
          refine ⟨fun f e => (by cases e), ?_⟩
          gi_wp2
          go_roundw
          case rel => exact ⟨k + 1, by omega, by simp, by rw [hs]; exact hJ2 _, hn2 _⟩
          case measure => simp [intOf]; omega
        · have hs : fl th (k + 1) = fl th k ++ [k] := by rw [fl_succ]; simp [h0, h6]
          have g0 : (th k 0 != 0) = true := by simp [h0]
          have g6 : (th k 6 != 0) = true := by simp [h6]
          obtain ⟨fn, tmps, assign, body, hy, hR⟩ := hY _ k _ (hJ2 (.cells #[.int .u64 (th k 0), .int .u64 (th k 1), .int .u64 (th k 2), .int .u64 (th k 3), .int .u64 (th k 4), .int .u64 (th k 5), .int .u64 (th k 6), .int .u64 (th k 7), .int .u64 (th k 8), .int .u64 (th k 9)] 104)) (by have := fl_len th k; omega)
          gi_wp2
          refine hR.mono ?_
          rintro e W3 (⟨rfl, hJ3, hk3⟩ | ⟨rfl, hJx3⟩)
          · gi_wp2
            go_roundw
            case rel => exact ⟨k + 1, by omega, by simp, by rw [hs]; exact hJ3, (hn2 _).trans hk3⟩
            case measure => simp [intOf]; omega
          · gi_wp2
            refine bodyPost_ret (results_none rfl _ _ _) rfl ?_
            exact ⟨⟨_, rfl⟩, .inr ⟨_, trivial, hJx3⟩⟩
    · obtain rfl : k = len := by omega
      gi_wp2
      go_end0
      exact ⟨⟨_, rfl⟩, .inl ⟨_, rfl, hJs⟩⟩

set_option maxRecDepth 100000 in
set_option maxHeartbeats 1000000 in
theorem flagged1_nil (F : Fence) (n : Nat) (h7 : F.fn 127) (hro : F.round = none) (l Bs : Nat) (ep : Int) (J : List Nat → World → Prop) (W : World) (hBs : W.cell? ⟨Bs, 0, none⟩ = some (.slice none 0 0)) (hBs1 : W.cell? ⟨Bs, 1, none⟩ = some (.int .u64 ep)) (h0 : J [] W) :
    CallsIn F n Try.prog 127 #[.func (.yield l) #[] #[], .pointer (some ⟨Bs, 0, none⟩)] W fun e W' => (∃ v, e = .returned v) ∧ J [] W' := by
  refine callsIn_of_wp Try.func127 rfl h7 ?_ hro
  simp only [Try.ntmps127, List.size_toArray, List.length_cons, List.length_nil, Nat.reduceAdd, Nat.reduceSub, Array.replicate_succ, Array.replicate_zero, List.push_toArray, List.append_toArray, List.nil_append, List.cons_append]
  gi_wp2
  gi_loopw [8] (fun i wr => i = .int .i64 0 ∧ J [] wr) (fun _ _ => 0)
  case atStart => exact ⟨rfl, h0⟩
  case round =>
    obtain ⟨rfl, hJs⟩ := hrel
    gi_wp2
    go_end0
    exact ⟨⟨_, rfl⟩, hJs⟩

set_option maxHeartbeats 1000000 in
theorem flagged_in (F : Fence) (n : Nat) (h5 : F.fn 85) (hro : F.round = none) (a : Value) (ep : Int) (ha : a.oneCell' = true) (w : World) :
    CallsIn F n Try.prog 85 #[.agg #[a, .int .u64 ep]] w fun e w' => e = .returned (.func (.func 127) #[] #[.pointer (some ⟨w.heap.size, 0, none⟩)]) ∧ w' = w.alloc (.cells #[a, .int .u64 ep] 71) := by
  have hcl := h1_cells a ha
  refine callsIn_of_wp Try.func85 rfl h5 ?_ hro
  simp only [Try.ntmps85, List.size_toArray, List.length_cons, List.length_nil, Nat.reduceAdd, Nat.reduceSub, Array.replicate_succ, Array.replicate_zero, List.push_toArray, List.append_toArray, List.nil_append, List.cons_append]
  gi_wp2
  go_ret
  exact ⟨rfl, rfl⟩

/-- The slice of the threads: nil, or in a block below n₀. -/
def Thr (n₀ : Nat) (W : World) (sv : Value) (len : Nat) (th : Nat → Nat → Int) : Prop :=
  (sv = .slice none 0 0 ∧ len = 0) ∨ ∃ b off cap, sv = .slice (some ⟨b, off, none⟩) len cap ∧ (0 < len → b < n₀) ∧ ∀ j, j < len → ∀ c, c < 10 → W.cell? ⟨b, off + j * 10 + c, none⟩ = some (.int .u64 (th j c))
theorem Thr.below {n₀ : Nat} {A B : World} (h : Below n₀ A B) {sv : Value} {len : Nat} {th : Nat → Nat → Int} : Thr n₀ A sv len th → Thr n₀ B sv len th
  | .inl e => .inl e
  | .inr ⟨b, off, cap, e, hb, hc⟩ => .inr ⟨b, off, cap, e, hb, fun j hj c hcc => (h.cell (p := ⟨b, off + j * 10 + c, none⟩) (hb (by omega))).trans (hc j hj c hcc)⟩

theorem flagged_stops (F : Fence) (n : Nat) (h7 : F.fn 127) (hro : F.round = none) (hn : 1 ≤ n) (Bs n₀ : Nat) (sv : Value) (ep : Int) (len : Nat) (th : Nat → Nat → Int) (hreach : len ≤ 100000) (w : World) (hBs : Bs < w.heap.size) (hn₀ : n₀ ≤ w.heap.size)
    (hc : w.cell? ⟨Bs, 0, none⟩ = some sv) (hc1 : w.cell? ⟨Bs, 1, none⟩ = some (.int .u64 ep)) (hI : Thr n₀ w sv len th) :
    SeqStopsK F n Try.prog 127 #[.pointer (some ⟨Bs, 0, none⟩)] (fun x : Nat => #[Value.int .i64 x]) (Below n₀) (fun ys => ys = fl th len) (fun _ => True) len w := fun l J Jx W hW hJ _ hY h0 => by
  have hc' := (hW.cell (p := ⟨Bs, 0, none⟩) hBs).trans hc
  have hc1' := (hW.cell (p := ⟨Bs, 1, none⟩) hBs).trans hc1
  rcases hI.below (hW.mono hn₀) with ⟨rfl, rfl⟩ | ⟨b, off, cap, rfl, hb, hcs⟩
  · exact (flagged1_nil F n h7 hro l Bs ep J W hc' hc1' h0).mono fun e W' ⟨he, hj⟩ => ⟨he, .inl ⟨_, by simp [fl], hj⟩⟩
  · exact flagged1_in F n h7 hro hn l Bs n₀ b off len cap ep th hreach hb J Jx hY W hJ (Nat.le_trans hn₀ hW.size) hc' hc1' hcs h0

set_option maxHeartbeats 1000000 in
theorem clip_in (F : Fence) (n : Nat) (h5 : F.fn 86) (hro : F.round = none) (g m c : Nat) (hmc : m ≤ c) (hm : 0 < m) (w : World) :
    CallsIn F n Try.prog 86 #[.slice (some ⟨g, 0, none⟩) m c] w fun e w' => e = .returned (.slice (some ⟨g, 0, none⟩) m m) ∧ w' = w := by
  refine callsIn_of_wp Try.func86 rfl h5 ?_ hro
  simp only [Try.ntmps86, List.size_toArray, List.length_cons, List.length_nil, Nat.reduceAdd, Nat.reduceSub, Array.replicate_succ, Array.replicate_zero, List.push_toArray, List.append_toArray, List.nil_append, List.cons_append]
  gi_wp2
  go_ret
  exact ⟨by simp, rfl⟩
set_option maxHeartbeats 1000000 in
theorem clip_nil (F : Fence) (n : Nat) (h5 : F.fn 86) (hro : F.round = none) (w : World) :
    CallsIn F n Try.prog 86 #[.slice none 0 0] w fun e w' => e = .returned (.slice none 0 0) ∧ w' = w := by
  refine callsIn_of_wp Try.func86 rfl h5 ?_ hro
  simp only [Try.ntmps86, List.size_toArray, List.length_cons, List.length_nil, Nat.reduceAdd, Nat.reduceSub, Array.replicate_succ, Array.replicate_zero, List.push_toArray, List.append_toArray, List.nil_append, List.cons_append]
  gi_wp2
  go_ret
  exact ⟨by simp, rfl⟩

theorem info3 : (Try.prog.info? 3).map (fun i => (i.zero, i.size, i.bytes)) = some (some (.int .i64 0), 1, 8) := by kernel_rfl

set_option maxRecDepth 100000 in
set_option maxHeartbeats 2000000 in
theorem Flagged_in (F : Fence) (n : Nat) (h3 : F.fn 35) (h4 : F.fn 85) (h5 : F.fn 127) (h6 : F.fn 86) (hro : F.round = none) (hn : 3 ≤ n) (sv : Value) (ha : sv.oneCell' = true) (ep : Int) (len : Nat) (th : Nat → Nat → Int) (hlen : len ≤ 100000) (w : World) (hL : Thr w.heap.size w sv len th) :
    CallsIn F n Try.prog 35 #[.agg #[sv, .int .u64 ep]] w fun e W' => ∃ v, e = .returned v ∧ ((v = .slice none 0 0 ∧ fl th len = []) ∨ ∃ g cap cur, v = .slice (some ⟨g, 0, none⟩) (fl th len).length (fl th len).length ∧ w.heap.size ≤ g ∧ fl th len ≠ [] ∧ W'.heap[g]? = some (.cells cur 3 (0, 0)) ∧ (fl th len).length ≤ cap ∧ cur.size = cap ∧ cur.toList.take (fl th len).length = (fl th len).map (fun i : Nat => Value.int .i64 i)) ∧ Below w.heap.size w W' := by
  have h1 : 1 ≤ n := by omega
  have hcl := h1_cells sv ha
  obtain ⟨i0, hi, hz0, hz1, hz2⟩ := info_parts info3
  refine callsIn_of_wp_marks Try.func35 rfl h3 ?_ hro
  simp only [Try.ntmps35, List.size_toArray, List.length_cons, List.length_nil, Nat.reduceAdd, Nat.reduceSub, Array.replicate_succ, Array.replicate_zero, List.push_toArray, List.append_toArray, List.nil_append, List.cons_append]
  gi_wp2_with (gi_at_call 85; refine (flagged_in F (n - 1) h4 hro _ _ ha _).mono ?_; rintro e w' ⟨rfl, rfl⟩)
  have bO := (Boxed.new (w.alloc (.cells #[sv, .int .u64 ep] 71)) 72 (.slice none 0 0)).alloc (.cells #[sv, .int .u64 ep] 71)
  rw [World.size_alloc] at bO
  have hN := World.alloc_heap_new ((w.alloc (.cells #[sv, .int .u64 ep] 71)).alloc (.cells #[.slice none 0 0] 72)) (.cells #[sv, .int .u64 ep] 71)
  rw [World.size_alloc, World.size_alloc] at hN
  have hB0 : Below w.heap.size w (((w.alloc (.cells #[sv, .int .u64 ep] 71)).alloc (.cells #[.slice none 0 0] 72)).alloc (.cells #[sv, .int .u64 ep] 71)) := (((Below.refl _ w).alloc (Nat.le_refl _) _).alloc (by simp) _).alloc (by simp; omega) _
  obtain ⟨W0, hW0⟩ : ∃ W0, ((w.alloc (.cells #[sv, .int .u64 ep] 71)).alloc (.cells #[.slice none 0 0] 72)).alloc (.cells #[sv, .int .u64 ep] 71) = W0 := ⟨_, rfl⟩
  have hs0 : W0.heap.size = w.heap.size + 1 + 1 + 1 := by rw [← hW0]; simp
  rw [hW0] at bO hN hB0 ⊢
  refine wpIn_rangeFunc_ownG hro h1 (gf := 127) (lb := #[.pointer (some ⟨w.heap.size + 1 + 1, 0, none⟩)]) rfl h5 (enters_of Try.func127 (by kernel_rfl) rfl)
    (flagged_stops F (n - 1) h5 hro (by omega) (w.heap.size + 1 + 1) w.heap.size sv ep len th hlen W0 (by omega) (by omega) (by simp [World.cell?, hN]) (by simp [World.cell?, hN]) (hL.below hB0)) belowK_t (belowK_b (by omega)) (Below.refl _ _) (fun _ => rfl)
    (fun pre W => (∃ v, Boxed W (w.heap.size + 1) 72 v ∧ W.ownsRow w.heap.size 3 1 v pre.length (pre.map (fun i : Nat => Value.int .i64 i)) ∧ (v = .slice none 0 0 ↔ pre = [])) ∧ Below w.heap.size w W)
    (fun _ _ _ => False)
    (OwnFrom.and (Own.from (holdsRow_own w.heap.size (w.heap.size + 1) 72 3 1 (fun pre => pre.length) (fun pre => pre.map (fun i : Nat => Value.int .i64 i)) (fun pre v => v = .slice none 0 0 ↔ pre = [])) _) (ownFrom_below (Nat.le_refl _) (by omega)))
    (fun _ _ _ _ _ hs _ _ => hs)
    ⟨⟨_, bO, World.ownsRow_nil _ _ _ _, by simp⟩, hB0⟩
    (fun x => { tmps := #[.agg #[sv, .int .u64 ep], .pointer (some ⟨w.heap.size, 0, none⟩), .pointer (some ⟨w.heap.size + 1, 0, none⟩), .int .i64 x, .agg #[sv, .int .u64 ep], .func (.func 127) #[] #[.pointer (some ⟨w.heap.size + 1 + 1, 0, none⟩)], .int .i64 x, undef, undef, undef, undef, undef, undef], defers := [] }) ?assign ?body ?done ?stop
  case assign =>
    intro l x W K hK
    gi_wp2
    exact hK
  case body =>
    rintro l pre x W ⟨⟨v, hv, hrow, hnil⟩, hB⟩ hlt
    have hc := hv.cell
    gi_wp2_with (gi_at_builtin; refine wpListIn_append_own _ rfl _ _ 72 rfl w.heap.size 3 i0 (.int .i64 0) 1 8 Try.underlying72 hi hz0 hz1 hz2 rfl (by decide) _ _ _ rfl (hrow.alloc _) ⟨W.heap.size, 0, none⟩ 1 1 [.int .i64 x] rfl rfl (cell_one_new _ _ _) (by simp [Value.oneCell']) (by simp [maxLen]; omega) (by omega) (by have := hB.size; simp; omega) ?_; intro v' w1 hown' hgrow _; obtain ⟨g', cap', rfl⟩ := ownsRow_succ hown'; obtain ⟨hv1, hv2, hr2, hk2, hb2⟩ := hv.appended (by decide) hrow hB.size (by omega) hown' hgrow; have hc1 := hv1.cell; have hf1 := hv1.frozen)
    exact ⟨hk2.from _, hb2, ⟨_, hv2, by simpa using hr2, by simp⟩, hB.trans hb2⟩
  case done =>
    rintro D ys W hD rfl ⟨⟨v, hv, hrow, hnil⟩, hB⟩ hK
    have hc := hv.cell
    have hf := hv.frozen
    have hK2 : ∀ u, (W.setCell ⟨w.heap.size + 1, 0, none⟩ u).heap[D]? = some (.deferred (some [])) := fun u => (Below.heap_setCell _ _ _ D (by show D ≠ w.heap.size + 1; omega)).trans hK
    have hB2 : ∀ u, Below w.heap.size w ((W.setCell ⟨w.heap.size + 1, 0, none⟩ u).putObj D (.deferred none)) := fun u =>
      (hB.setCell (p := ⟨w.heap.size + 1, 0, none⟩) (by show w.heap.size ≤ w.heap.size + 1; omega) u).trans (belowK_b (w := w) (Nat.le_refl _) _ D _ _ (by omega) (hK2 u) rfl rfl)
    have hc2 : ∀ u, ((W.setCell ⟨w.heap.size + 1, 0, none⟩ u).putObj D (.deferred none)).cell? ⟨w.heap.size + 1, 0, none⟩ = some u := fun u =>
      ((hv.set u).kept (grownBy_putObj' _ D _) (by simp; omega)).cell
    have hg2 : ∀ u g o, W.heap[g]? = some o → g ≠ D → g ≠ w.heap.size + 1 → ((W.setCell ⟨w.heap.size + 1, 0, none⟩ u).putObj D (.deferred none)).heap[g]? = some o := fun u g o hg h1 h2 =>
      (World.putObj_heap_other h1).trans ((Below.heap_setCell _ _ _ g (by show g ≠ w.heap.size + 1; exact h2)).trans hg)
    rcases hrow.2 with ⟨rfl, hz⟩ | ⟨g, cap, cur, rfl, hg, hgb, r1, r2, r3, r4⟩
    · have hnn : fl th len = [] := hnil.1 rfl
      clear hz hnil hrow
      gi_wp2_with (gi_at_call 86; refine (clip_nil F (n - 1) h6 hro _).mono ?_; rintro e w' ⟨rfl, rfl⟩)
      exact ⟨by simp, .inl ⟨_, _, rfl, run_takeDeferred (b := D) (hK2 _), ⟨_, results_box rfl _ _ rfl (hc2 _) Try.underlying72, _, rfl, .inl ⟨rfl, hnn⟩, hB2 _⟩⟩⟩
    · have hpos : 0 < (fl th len).length := by
        refine List.length_pos_iff.2 (fun e => ?_)
        have := hnil.2 e
        cases this
      have hgD : g ≠ D := fun e => by rw [e, hK] at hgb; cases hgb
      have hgB : g ≠ w.heap.size + 1 := fun e => by
        rw [e, show W.heap[w.heap.size + 1]? = _ from hv] at hgb
        simp at hgb
      have hne : fl th len ≠ [] := List.length_pos_iff.1 hpos
      gi_wp2_with (gi_at_call 86; refine (clip_in F (n - 1) h6 hro _ _ _ r1 hpos _).mono ?_; rintro e w' ⟨rfl, rfl⟩)
      exact ⟨by simp, .inl ⟨_, _, rfl, run_takeDeferred (b := D) (hK2 _), ⟨_, results_box rfl _ _ rfl (hc2 _) Try.underlying72, _, rfl, .inr ⟨g, cap, cur, rfl, hg, hne, hg2 _ g _ hgb hgD hgB, r1, by simpa using r3, by simpa using r4⟩, hB2 _⟩⟩⟩
  case stop =>
    rintro D c pre W _ _ h _
    exact h.elim

open Go.Ev in
def tSh : List CK := [.int .u64, .int .u64, .int .u64, .int .u64, .int .u64, .int .u64, .int .u64, .int .u64, .int .u64, .int .u64]
open Go.Ev in
def thOf (g : Nat → Nat → AV) (i j : Nat) : Int := avInt (g i j)
open Go.Ev in
def flF (l : List Nat) (i j : Nat) : AV := .sym .i64 (((l[i]?).getD 0 : Nat) : Int)
open Go.Ev in
noncomputable def flR (n l : Nat) (r : Bool) (g : Nat → Nat → AV) : LR := ⟨1, .ss 1 2 0 (fl (thOf g) n).length (some (fl (thOf g) n).length), [(2, .arr 1 [.int .i64] false (fl (thOf g) n).length (flF (fl (thOf g) n))), (1, .arr 10 tSh r l g)], 1, [], [n ≤ l, n ≤ 100000]⟩
open Go.Ev in
theorem fl_gen {ρ : Ev.Ren} {w : World} {L : Ev.Loc} {n l : Nat} {r : Bool} {g : Nat → Nat → AV} {e : Int} {c : Option Nat} {sv : Value} (hnl : n ≤ l) (hn : n ≤ 100000) (ho : ObjRep Try.prog ρ w L (.arr 10 tSh r l g)) (hsv : L.slice 10 0 n c = some sv) :
    Calls Try.prog 35 #[.agg #[sv, .int .u64 e]] w fun en w' => Below w.heap.size w w' ∧ ∃ v, en = .returned v ∧ ∃ l2 : Ev.Loc, (l2.cap ≠ 0 → w.heap.size ≤ l2.blk) ∧ (∀ ρ', ObjRep Try.prog ρ' w' l2 (.arr 1 [.int .i64] false (fl (thOf g) n).length (flF (fl (thOf g) n)))) ∧ l2.slice 1 0 (fl (thOf g) n).length (some (fl (thOf g) n).length) = some v := by
  have ho' := ho
  obtain ⟨h1, h2, h3, h4, h5⟩ := ho'
  have hT : sv.oneCell' = true ∧ Thr w.heap.size w sv n (thOf g) := by
    unfold Loc.slice at hsv
    rw [if_pos h1] at hsv
    cases hn0 : L.isnil with
    | true =>
      have hc0 := h4 hn0
      have : n = 0 := by omega
      subst this
      simp only [hn0] at hsv
      split at hsv
      · cases hsv; exact ⟨rfl, .inl ⟨rfl, rfl⟩⟩
      · cases hsv
    | false =>
      simp only [hn0] at hsv
      split at hsv
      · cases hsv
        refine ⟨rfl, ?_⟩
        by_cases hc : L.cap = 0
        · have : n = 0 := by omega
          subst this
          exact .inr ⟨_, _, _, rfl, fun h => absurd h (Nat.lt_irrefl 0), fun j hj => absurd hj (Nat.not_lt_zero j)⟩
        · refine .inr ⟨_, _, _, rfl, fun _ => ho.lt hc, fun j hj c hcc => ?_⟩
          have := arr_cell ho (i := j) (j := c) (k := .u64) (by omega) (by
            rcases (show c = 0 ∨ c = 1 ∨ c = 2 ∨ c = 3 ∨ c = 4 ∨ c = 5 ∨ c = 6 ∨ c = 7 ∨ c = 8 ∨ c = 9 by omega) with rfl | rfl | rfl | rfl | rfl | rfl | rfl | rfl | rfl | rfl <;> rfl)
          simpa [thOf] using this
      · cases hsv
  obtain ⟨hone, hT⟩ := hT
  have hcall := callsIn_wide.1 (Flagged_in Fence.wide 3 trivial trivial trivial trivial rfl (Nat.le_refl _) sv hone e n (thOf g) hn w hT)
  refine hcall.mono fun en w' ⟨v, hv, hcase, hB⟩ => ⟨hB, v, hv, ?_⟩
  subst hv
  have hlen := fl_len (thOf g) n
  rcases hcase with ⟨rfl, hnil⟩ | ⟨gb, cap, cur, rfl, hgs, hne, hgb, hcap, hsz, htk⟩
  · refine ⟨⟨0, 0, 1, 0, true⟩, (fun h => absurd rfl h), fun ρ' => ?_, ?_⟩
    · simp only [hnil]
      exact ⟨rfl, rfl, Nat.le_refl _, fun _ => rfl, fun h => absurd rfl h⟩
    · simp [hnil, Loc.slice, capOr]
  · have hpos : 0 < (fl (thOf g) n).length := List.length_pos_iff.2 hne
    refine ⟨⟨gb, 0, 1, (fl (thOf g) n).length, false⟩, (fun _ => hgs), fun ρ' => ?_, by simp [Loc.slice, capOr]⟩
    refine ⟨rfl, rfl, Nat.le_refl _, (fun h => by cases h), fun _ => ⟨cur, 3, (0, 0), hgb, fun _ => Nat.le_refl _, by simp; omega, fun i hi j k hj => ?_⟩⟩
    cases j with
    | succ j => simp at hj
    | zero =>
      simp at hj; subst hj
      refine ⟨⟨_, .inr rfl⟩, .int .i64 (((fl (thOf g) n)[i]?.getD 0 : Nat) : Int), ?_, by simp [flF, den]⟩
      have h6 : (cur.toList.take (fl (thOf g) n).length)[i]? = ((fl (thOf g) n).map (fun i : Nat => Value.int .i64 i))[i]? := by rw [htk]
      rw [List.getElem?_take_of_lt hi] at h6
      simp only [Nat.zero_add, Nat.mul_one, Nat.add_zero]
      rw [← Array.getElem?_toList, h6]
      simp [hi]
open Go.Ev in
theorem fl_loc (n l : Nat) (r : Bool) (g : Nat → Nat → AV) (e : Int) (c : Option Nat) : LocOk Try.prog 35 [.agg [.ss 10 1 0 n c, .sym .u64 e]] [(1, .arr 10 tSh r l g)] (flR n l r g) := by
  intro ρ w hob hr hf hg xs hx
  have hnl : n ≤ l := hob _ (List.mem_cons_self ..)
  have hn : n ≤ 100000 := hob _ (List.mem_cons_of_mem _ (List.mem_cons_self ..))
  obtain ⟨L, hL, ho⟩ := hr.1 1 _ rfl
  simp only [denL, den, hL] at hx
  cases hsv : L.slice 10 0 n c with
  | none => rw [hsv] at hx; cases hx
  | some sv =>
    rw [hsv] at hx
    simp at hx
    subst hx
    refine (fl_gen hnl hn ho hsv).mono fun en w' ⟨hB, v, hv, l2, hl2, ho2, hs2⟩ => ?_
    refine ⟨v, ρ.set 2 l2, hv, .inr ?_, step_below (k := 1) hr hf (by unfold gnm; decide) hB l2 _ hl2 (ho2 _)⟩
    simp only [flR, den, Ren.set_same]
    exact hs2
open Go.Ev in
noncomputable def flR2 (n : Nat) (l : List AV) : LR := ⟨1, .ss 1 2 0 (fl (thOf (listRow 10 l)) n).length (some (fl (thOf (listRow 10 l)) n).length), [(2, .arr 1 [.int .i64] false (fl (thOf (listRow 10 l)) n).length (flF (fl (thOf (listRow 10 l)) n))), (1, .cells 10 l)], 1, [], [n ≤ l.length / 10, n ≤ 100000]⟩
open Go.Ev in
theorem fl_loc2 (n : Nat) (l : List AV) (e : Int) (c : Option Nat) (ev : AV) (hev : ev = .sym .u64 e ∨ ev = .int .u64 e) (hrows : (Nat.beq (l.length / 10 * 10) l.length && rowsB 10 l tSh (l.length / 10)) = true) : LocOk Try.prog 35 [.agg [.xs 10 1 0 n c, ev]] [(1, .cells 10 l)] (flR2 n l) := by
  intro ρ w hob hr hf hg xs hx
  have hnl : n ≤ l.length / 10 := hob _ (List.mem_cons_self ..)
  have hn : n ≤ 100000 := hob _ (List.mem_cons_of_mem _ (List.mem_cons_self ..))
  obtain ⟨L, hL, ho⟩ := hr.1 1 _ rfl
  simp only [Bool.and_eq_true] at hrows
  obtain ⟨hb1, hb2⟩ := hrows
  obtain ⟨gS, hgS⟩ : ∃ gS : Nat → Nat → AV, gS = fun i j => .sym .u64 (avInt (listRow 10 l i j)) := ⟨_, rfl⟩
  have hrow : ∀ i, i < l.length / 10 → rowOb tSh 0 (listRow 10 l i) (gS i) := fun i _ => by subst hgS; exact ⟨rfl, rfl, rfl, rfl, rfl, rfl, rfl, rfl, rfl, rfl, trivial⟩
  have hcast : castObj ⟨0, 0, []⟩ (.cells 10 l) (.arr 10 tSh false (l.length / 10) gS) = some [l.length / 10 = l.length / 10, ∀ i, i < l.length / 10 → rowOb tSh 0 (listRow 10 l i) (gS i)] := by
    unfold castObj
    simp only [hb1, hb2]
    rfl
  have hoA := (castObj_ok (ρ := ρ) hcast (fun p hp => by
    simp only [List.mem_cons, List.not_mem_nil, or_false] at hp
    rcases hp with h | h
    · rw [h]; trivial
    · rw [h]; exact hrow) ho).1
  have hth : thOf gS = thOf (listRow 10 l) := by subst hgS; rfl
  have hev' : den ρ ev = some (.int .u64 e) := by rcases hev with rfl | rfl <;> rfl
  have hnn := ho.1
  simp only [denL, den, hL, hnn, hev'] at hx
  cases hsv : L.slice 10 0 n c with
  | none => rw [hsv] at hx; cases hx
  | some sv =>
    rw [hsv] at hx
    simp at hx
    subst hx
    refine (fl_gen hnl hn hoA hsv).mono fun en w' ⟨hB, v, hv, l2, hl2, ho2, hs2⟩ => ?_
    rw [hth] at ho2 hs2
    refine ⟨v, ρ.set 2 l2, hv, .inr ?_, step_below (k := 1) hr hf (by unfold gnm; decide) hB l2 _ hl2 (ho2 _)⟩
    simp only [flR2, den, Ren.set_same]
    exact hs2
end Go.Proofs.Ytephpkfajobhmaa
