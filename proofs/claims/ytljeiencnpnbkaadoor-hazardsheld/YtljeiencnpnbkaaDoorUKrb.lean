/-
  maps.Keys, walked.
-/
import Derived.Test.YtljeiencnpnbkaaDoorUKra
import Derived.Test.YtljeiencnpnbkaaDoorProg
set_option linter.unusedSimpArgs false
set_option linter.unusedVariables false
namespace Go.Proofs.YtljeiencnpnbkaaDoor
open Go Go.Proofs Go.RowKit Go.Shelf
open Go.ChangeMaps (setBlock)
attribute [local go_sem] Oper.semAt_some

/-- An address as a value. -/
def encA (x : Int × Int) : Value := .agg #[.int .i64 x.1, .int .u32 x.2, .bool false]

set_option maxRecDepth 100000 in
set_option maxHeartbeats 2000000 in
theorem keys1_in (F : Fence) (n : Nat) (h10 : F.fn 110) (hro : F.round = none) (hn : 1 ≤ n) (l Bm Bo b : Nat) (es : Array MapEntry) (clock : Nat) (hborn : ∀ e ∈ es.toList, e.born < clock) (hnd : (es.toList.map (·.born)).Nodup) (hkey : ∀ e ∈ es.toList, ∃ x, e.key = encA x) (J Jx : List (Int × Int) → World → Prop)
    (hY : ∀ pre x W, J pre W → pre.length < es.size → YieldAt F (n - 1) Tryd.prog l #[encA x] W fun e W' =>
      (e = .returned (.bool true) ∧ J (pre ++ [x]) W' ∧ KeepsWalks W W') ∨ (e = .returned (.bool false) ∧ Jx (pre ++ [x]) W'))
    (W : World) (hJ : AbidesFrom W.heap.size J) (hm : W.cell? ⟨Bm, Bo, none⟩ = some (.map (some b))) (hb : W.heap[b]? = some (.map es clock)) (h0 : J [] W) :
    CallsIn F n Tryd.prog 110 #[.func (.yield l) #[] #[], .pointer (some ⟨Bm, Bo, none⟩)] W fun e W' => (∃ v, e = .returned v) ∧
      ((∃ ss, (ss.map encA).Perm (es.toList.map (·.key)) ∧ J ss W') ∨ (∃ pre, True ∧ Jx pre W')) := by
  have hbl : b < W.heap.size := (Array.getElem?_eq_some_iff.1 hb).1
  refine callsIn_of_wp Tryd.func110 rfl h10 ?_ hro
  simp only [Tryd.ntmps110, List.size_toArray, List.length_cons, List.length_nil, Nat.reduceAdd, Nat.reduceSub, Array.replicate_succ, Array.replicate_zero, List.push_toArray, List.append_toArray, List.nil_append, List.cons_append]
  gi_wp2_with (first
    | (gi_at_range; refine wpListIn_range_raw _ rfl _ 102 rfl 25 3 Tryd.underlying102 b es clock rfl hb ?_)
    | gi_in)
  go_frame
  gi_loopw [3] (fun _ wr => ∃ (vis : List MapEntry) (ss : List (Int × Int)), wr.heap[W.heap.size]? = some (.mapIter (some b) clock (vis.map (·.born)).toArray clock) ∧ wr.heap[b]? = some (.map es clock) ∧ vis.Nodup ∧ (∀ e ∈ vis, e ∈ es.toList) ∧ ss.map encA = vis.map (·.key) ∧ ss.length + (leftOf es (vis.map (·.born)).toArray).size ≤ es.size ∧ J ss wr)
    (fun _ wr => wr.rangeLeft b W.heap.size)
  case atStart =>
    refine ⟨[], [], World.alloc_heap_new W _, (Below.heap_alloc _ _ _ hbl).trans hb, List.nodup_nil, fun e h => (by cases h), rfl, ?_, hJ [] W _ none h0 (World.grownBy_alloc W _ none) (fun r e => by cases e)⟩
    show 0 + _ ≤ _
    rw [Nat.zero_add]
    exact Array.size_filter_le
  case round =>
    obtain ⟨vis, ss, hr, hbm, hvn, hvm, hvk, hcnt, hJs⟩ := hrel
    have hrl : W.heap.size < wr.heap.size := (Array.getElem?_eq_some_iff.1 hr).1
    gi_wp2_with (first
      | (gi_at_next; refine wpListIn_next_raw _ rfl _ rfl W.heap.size b clock clock _ es clock rfl hr hbm hborn (Nat.le_refl _) ?_ ?_)
      | gi_in)
    · intro hl0
      gi_wp2
      go_end0
      refine ⟨⟨_, rfl⟩, .inl ⟨ss, ?_, hJs⟩⟩
      rw [hvk]
      refine List.Perm.map _ ?_
      have hen : es.toList.Nodup := (List.pairwise_map.1 hnd).imp (fun h e => h (by rw [e]))
      refine (List.perm_ext_iff_of_nodup hvn hen).2 (fun e => ⟨hvm e, fun he => ?_⟩)
      have hs := all_seen es _ hl0 e he
      have : e.born ∈ vis.map (·.born) := by simpa using hs
      obtain ⟨e', he', hbe⟩ := List.mem_map.1 this
      have := List.pairwise_map.1 hnd
      have heq : e' = e := by
        exact born_inj hnd (hvm e' he') he hbe
      rw [← heq]; exact he'
    · intro e w1 he hw1
      obtain ⟨hem, hes⟩ := mem_left he
      obtain ⟨x, hx⟩ := hkey e hem
      have hh : w1.heap = wr.heap := by rcases hw1 with rfl | rfl <;> rfl
      have hne : b ≠ W.heap.size := by omega
      have hr1 : w1.heap[W.heap.size]? = some (.mapIter (some b) clock (vis.map (·.born)).toArray clock) := by rw [hh]; exact hr
      have hset := MapKept.heap_set (o' := .mapIter (some b) clock ((vis.map (·.born) ++ [e.born]).toArray) clock) hr1
      have hg2 : wr.grownBy (setBlock w1 W.heap.size (.mapIter (some b) clock ((vis.map (·.born) ++ [e.born]).toArray) clock)) (some W.heap.size) := by
        rcases hw1 with rfl | rfl <;> exact ⟨rfl, rfl, rfl, by simp [setBlock], fun i _ hi => hset.2 i (fun e1 => hi (by rw [e1]))⟩
      have hbm2 : (setBlock w1 W.heap.size (.mapIter (some b) clock ((vis.map (·.born) ++ [e.born]).toArray) clock)).heap[b]? = some (.map es clock) := (hset.2 b hne).trans ((by rw [hh]; exact hbm) : w1.heap[b]? = some (.map es clock))
      have hr2 : (setBlock w1 W.heap.size (.mapIter (some b) clock ((vis.map (·.born) ++ [e.born]).toArray) clock)).heap[W.heap.size]? = some (.mapIter (some b) clock ((vis.map (·.born) ++ [e.born]).toArray) clock) := hset.1
      obtain ⟨w2, hw2⟩ : ∃ w2, setBlock w1 W.heap.size (.mapIter (some b) clock ((vis.map (·.born) ++ [e.born]).toArray) clock) = w2 := ⟨_, rfl⟩
      rw [hw2] at hg2 hbm2 hr2 ⊢
      clear hset hw2
      have hseen : ((vis.map (·.born) ++ [e.born]).toArray) = ((vis.map (·.born)).toArray).push e.born := by simp
      have hJ2 : J ss w2 := hJ ss wr w2 (some W.heap.size) hJs hg2 (fun r e' => by cases e'; exact ⟨Nat.le_refl _, _, hr, rfl⟩)
      have hen := run_entry_at (P := Tryd.prog) w2 W.heap.size b clock ((vis.map (·.born)).toArray) es clock e (by rw [← hseen]; exact hr2) hbm2 hem hnd
      rw [hx] at hen ⊢
      unfold encA at hen ⊢
      have hJ3 : ∀ o, J ss (w2.alloc o) := fun o => hJ ss w2 _ none hJ2 (World.grownBy_alloc w2 _ none) (fun r e => by cases e)
      have hlt := left_shrinks es ((vis.map (·.born)).toArray) e (show e ∈ (leftOf es ((vis.map (·.born)).toArray)).toList from he)
      obtain ⟨fn, tmps, assign, body, hy, hR⟩ := hY ss x _ (hJ3 (.cells #[.int .i64 x.1, .int .u32 x.2, .bool false] 25)) (by omega)
      unfold encA at hy
      gi_wp2
      refine hR.mono ?_
      rintro en W3 (⟨rfl, hJ4, hk3⟩ | ⟨rfl, hJx3⟩)
      · have hrl2 : W.heap.size < w2.heap.size := (Array.getElem?_eq_some_iff.1 hr2).1
        have hbl2 : b < w2.heap.size := (Array.getElem?_eq_some_iff.1 hbm2).1
        have hr3 : W3.heap[W.heap.size]? = some (.mapIter (some b) clock ((vis.map (·.born) ++ [e.born]).toArray) clock) := hk3.same _ _ ((Below.heap_alloc _ _ _ hrl2).trans hr2) rfl
        have hb3 : W3.heap[b]? = some (.map es clock) := hk3.same _ _ ((Below.heap_alloc _ _ _ hbl2).trans hbm2) rfl
        have hnew : e ∉ vis := fun h => by
          have : ((vis.map (·.born)).toArray).contains e.born = true := by simp; exact ⟨e, h, rfl⟩
          rw [this] at hes; cases hes
        gi_wp2
        go_roundw
        case rel =>
          refine ⟨vis ++ [e], ss ++ [x], by simpa using hr3, hb3, ?_, ?_, ?_, ?_, hJ4⟩
          · exact List.nodup_append.2 ⟨hvn, by simp, fun y hy z hz => by simp at hz; subst hz; exact fun h => hnew (h ▸ hy)⟩
          · intro y hy
            rcases List.mem_append.1 hy with hy | hy
            · exact hvm y hy
            · simp at hy; subst hy; exact hem
          · simp [hvk, hx, encA]
          · rw [show ((vis ++ [e]).map (·.born)).toArray = ((vis.map (·.born)).toArray).push e.born by simp]
            rw [List.length_append]
            show ss.length + 1 + _ ≤ _
            omega
        case measure =>
          simp only [World.rangeLeft, hr3, hb3, hr, hbm, hseen]
          exact hlt
      · gi_wp2
        refine bodyPost_ret (results_none rfl _ _ _) rfl ?_
        exact ⟨⟨_, rfl⟩, .inr ⟨_, trivial, hJx3⟩⟩

set_option maxHeartbeats 1000000 in
theorem keys_in (F : Fence) (n : Nat) (h7 : F.fn 48) (hro : F.round = none) (mb : Option Nat) (w : World) :
    CallsIn F n Tryd.prog 48 #[.map mb] w fun e w' => e = .returned (.func (.func 110) #[] #[.pointer (some ⟨w.heap.size, 0, none⟩)]) ∧ w' = w.alloc (.cells #[.map mb] 102) := by
  refine callsIn_of_wp Tryd.func48 rfl h7 ?_ hro
  simp only [Tryd.ntmps48, List.size_toArray, List.length_cons, List.length_nil, Nat.reduceAdd, Nat.reduceSub, Array.replicate_succ, Array.replicate_zero, List.push_toArray, List.append_toArray, List.nil_append, List.cons_append]
  gi_wp2
  go_ret
  exact ⟨rfl, rfl⟩

theorem keys_stops (F : Fence) (n : Nat) (h10 : F.fn 110) (hro : F.round = none) (hn : 1 ≤ n) (Bm Bo b : Nat) (es : Array MapEntry) (clock : Nat) (hborn : ∀ e ∈ es.toList, e.born < clock) (hnd : (es.toList.map (·.born)).Nodup) (hkey : ∀ e ∈ es.toList, ∃ x, e.key = encA x) (w : World) (hBm : Bm < w.heap.size)
    (hm : w.cell? ⟨Bm, Bo, none⟩ = some (.map (some b))) (hb : w.heap[b]? = some (.map es clock)) :
    SeqStopsK F n Tryd.prog 110 #[.pointer (some ⟨Bm, Bo, none⟩)] (fun x => #[encA x]) KeepsWalks (fun ss => (ss.map encA).Perm (es.toList.map (·.key))) (fun _ => True) es.size w := fun l J Jx W hW hJ _ hY h0 =>
  keys1_in F n h10 hro hn l Bm Bo b es clock hborn hnd hkey J Jx hY W hJ ((hW.cell (p := ⟨Bm, Bo, none⟩) hBm).trans hm) ((hW.block b (Array.getElem?_eq_some_iff.1 hb).1).trans hb) h0
end Go.Proofs.YtljeiencnpnbkaaDoor
