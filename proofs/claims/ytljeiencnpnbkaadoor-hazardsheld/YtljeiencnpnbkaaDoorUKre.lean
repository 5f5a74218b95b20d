/-
  slices.SortedFunc, walked.
-/
import Derived.Test.YtljeiencnpnbkaaDoorUKrd
import Derived.Test.YtljeiencnpnbkaaDoorUKrs
set_option linter.unusedSimpArgs false
set_option linter.unusedVariables false
namespace Go.Proofs.YtljeiencnpnbkaaDoor
open Go Go.Proofs Go.RowKit Go.Shelf Go.Lib Go.Sort
attribute [local go_sem] Oper.semAt_some

def ltA (x y : Int × Int) : Bool := ltOf cfA x y
theorem ltA_iff (x y : Int × Int) : ltA x y = true ↔ (x.1 < y.1 ∨ x.1 = y.1 ∧ x.2 < y.2) := by
  unfold ltA ltOf cfA orI Lib.compareInt
  rw [decide_eq_true_eq]
  split <;> split <;> (try split) <;> (try split) <;> omega
theorem swoA : SWO (ltOf cfA) where
  irrefl x := by
    cases h : ltOf cfA x x with
    | false => rfl
    | true => have := (ltA_iff x x).1 h; omega
  trans x y z h1 h2 := by
    have a := (ltA_iff x y).1 h1; have b := (ltA_iff y z).1 h2
    exact (ltA_iff x z).2 (by omega)
  ntrans x y z h1 h2 := by
    cases h : ltOf cfA x z with
    | false => rfl
    | true =>
      have c := (ltA_iff x z).1 h
      have a : ¬ ltA x y = true := by unfold ltA; rw [h1]; simp
      have b : ¬ ltA y z = true := by unfold ltA; rw [h2]; simp
      rw [ltA_iff] at a b
      omega
theorem totA (x y : Int × Int) (h1 : ltOf cfA x y = false) (h2 : ltOf cfA y x = false) : x = y := by
  have a : ¬ ltA x y = true := by unfold ltA; rw [h1]; simp
  have b : ¬ ltA y x = true := by unfold ltA; rw [h2]; simp
  rw [ltA_iff] at a b
  have e1 : x.1 = y.1 := by omega
  have e2 : x.2 = y.2 := by omega
  exact Prod.ext e1 e2

def srtA (ss : List (Int × Int)) : List (Int × Int) := ss.mergeSort fun x y => !(ltOf cfA) y x
theorem srtA_perm (ss : List (Int × Int)) : (srtA ss).Perm ss := List.mergeSort_perm ss _

theorem flatA_eq (l : List (Int × Int)) : (flatK cA 3 l.toArray).toList = flA l := by
  apply List.ext_getElem?
  intro j
  have hlen : (flA l).length = l.length * 3 := by
    induction l with
    | nil => rfl
    | cons x r ih => simp only [flA, List.flatMap_cons, List.length_append] at ih ⊢; simp [cA, ih]; omega
  by_cases hj : j < l.length * 3
  · have h1 : (flatK cA 3 l.toArray).toList[j]? = some (flatK cA 3 l.toArray)[j]! := by
      rw [Array.getElem?_toList, Array.getElem!_eq_getD, Array.getD]
      rw [dif_pos (by simpa using hj)]
      simp [hj]
    rw [h1, get_flatK _ _ _ _ (by simpa using hj)]
    have key : ∀ (l : List (Int × Int)) (j : Nat), j < l.length * 3 → (flA l)[j]? = some ((cA l.toArray[j / 3]!)[j % 3]!) := by
      intro l
      induction l with
      | nil => intro j hj; simp at hj
      | cons x r ih =>
        intro j hj
        show (cA x ++ flA r)[j]? = _
        by_cases h3 : j < 3
        · rw [List.getElem?_append_left (by simp [cA]; omega)]
          rcases (show j = 0 ∨ j = 1 ∨ j = 2 by omega) with rfl | rfl | rfl <;> simp [cA]
        · rw [List.getElem?_append_right (by simp [cA]; omega)]
          have := ih (j - 3) (by simp at hj; omega)
          have e1 : (cA x).length = 3 := rfl
          rw [e1, this]
          have e2 : j / 3 = (j - 3) / 3 + 1 := by omega
          have e3 : (j - 3) % 3 = j % 3 := by omega
          rw [e2, e3]
          simp
    exact (key l j hj).symm
  · rw [List.getElem?_eq_none (by simp; omega), List.getElem?_eq_none (by omega)]

theorem holdsA {w : World} {g : Nat} {cur : Array Value} {e : TypeId} {ss : List (Int × Int)} (hb : w.heap[g]? = some (.cells cur e (0, 0))) (ht : cur.toList.take (ss.length * 3) = flA ss) : HoldsK cA 3 w g 0 ss.toArray := by
  intro j hj
  have hj' : j < ss.length * 3 := by simpa using hj
  refine ⟨?_, by simp [World.frozen?, hb]⟩
  have h1 : (cur.toList.take (ss.length * 3))[j]? = (flA ss)[j]? := by rw [ht]
  rw [List.getElem?_take_of_lt hj'] at h1
  simp only [World.cell?, hb, Nat.zero_add]
  simp only [Option.isSome_none, Bool.false_eq_true, if_false]
  rw [← Array.getElem?_toList, h1, ← flatA_eq, Array.getElem?_toList, Array.getElem!_eq_getD, Array.getD]
  rw [dif_pos (by simpa using hj')]
  simp [hj']

theorem heap_sortedA {w : World} {g n : Nat} {os : Array Obj} {cur : Array Value} {e : TypeId} {fr : Nat × Nat} (d : Array Value) (hb : w.heap[g]? = some (.cells cur e fr)) :
    (grow (putRow id (Sort.ahead w n) g 0 d) os).heap[g]? = some (.cells (putCells id 0 d cur) e fr) := by
  have hg : g < w.heap.size := (Array.getElem?_eq_some_iff.1 hb).1
  rw [heap_grow_old _ _ (by simpa using hg)]
  simp [putRow, mapBlock, Sort.ahead, Array.getElem?_modify, hb, onCells]

theorem grownBy_sortedA {w : World} {g n : Nat} {os : Array Obj} (d : Array Value) : w.grownBy (grow (putRow id (Sort.ahead w n) g 0 d) os) (some g) := by
  refine ⟨rfl, rfl, rfl, by simp, fun k hk hne => ?_⟩
  rw [heap_grow_old _ _ (by simpa using hk)]
  have : g ≠ k := fun e => hne (by rw [e])
  simp [putRow, mapBlock, Sort.ahead, Array.getElem?_modify, this]

theorem take_putA (cur : Array Value) (ts : Array Value) (h : ts.size ≤ cur.size) : (putCells id 0 ts cur).toList.take ts.size = ts.toList := by
  apply List.ext_getElem?
  intro j
  by_cases hj : j < ts.size
  · rw [List.getElem?_take_of_lt hj, Array.getElem?_toList]
    simp [putCells, hj, show j < cur.size by omega]
  · rw [List.getElem?_take_eq_none (by omega), List.getElem?_eq_none (by simp; omega)]

theorem isAgg24 : ∀ w, (isAgg 25).run Tryd.prog w = .ok true w := Tryd.isAgg25
theorem sizeOf24 : ∀ w, (Go.sizeOf 25).run Tryd.prog w = .ok 3 w := Tryd.sizeOf25

set_option maxHeartbeats 2000000 in
theorem sorted_in (n : Nat) (hn : 6 ≤ n) (g : Nat) (lb : Array Value) (eg : ∀ args w, (callFunc g args).run Tryd.prog w = .ok (.enter g args) w)
    (S : List (Int × Int) → Prop) (N : Nat) (hN : N ≤ 1000000) (hSN : ∀ ss, S ss → ss.length ≤ N) (w : World) (hseq : SeqStopsK Fence.wide (n - 1 - 1 - 1) Tryd.prog g lb (fun x => #[encA x]) KeepsWalks S (fun _ => True) N w) :
    CallsIn Fence.wide n Tryd.prog 47 #[.func (.func g) #[] lb, .func (.func 50) #[] #[]] w fun e W' => ∃ v ss, e = .returned v ∧ S ss ∧ W'.ownsRow w.heap.size 25 3 v ss.length (flA (srtA ss)) ∧ (v = .slice none 0 0 ↔ ss = []) ∧ Below w.heap.size w W' := by
  have h1 : 1 ≤ n := by omega
  have e125 : ∀ args w, (callFunc 50 args).run Tryd.prog w = .ok (.enter 50 args) w := enters_of Tryd.func50 (by kernel_rfl) rfl
  refine callsIn_of_wp Tryd.func47 rfl trivial ?_ rfl
  simp only [Tryd.ntmps47, List.size_toArray, List.length_cons, List.length_nil, Nat.reduceAdd, Nat.reduceSub, Array.replicate_succ, Array.replicate_zero, List.push_toArray, List.append_toArray, List.nil_append, List.cons_append]
  have f136 : Fence.wide.fn 108 := trivial
  have f143 : Fence.wide.fn 170 := trivial
  have f137 : Fence.wide.fn 109 := trivial
  gi_wp2_with (gi_at_call 108; refine (collect_in Fence.wide (n - 1) trivial trivial rfl (by omega) g lb trivial eg S N hN _ hseq).mono ?_; rintro e W ⟨v, ss, rfl, hS, hrow, hnil, hb⟩)
  rcases hrow.2 with ⟨rfl, hz⟩ | ⟨gb, cap, cur, rfl, hbase, hgb, r1, r2, r3, r4⟩
  · have hss : ss = [] := List.eq_nil_of_length_eq_zero hz
    subst hss
    have hc := fun fv W => AnyF.slices_SortFunc_none srt none 0 fv W
    change ∀ fv W, Calls Tryd.prog 109 _ _ _ at hc
    refine (callsIn_wide.2 (hc _ _)).mono ?_
    rintro e w' ⟨rfl, rfl⟩
    gi_wp2
    go_ret
    exact ⟨.slice none 0 0, [], rfl, hS, by simpa [srtA, flA] using hrow, by simp, hb⟩
  · have hH : HoldsK cA 3 W gb 0 ss.toArray := holdsA hgb r4
    have hgl : gb < W.heap.size := (Array.getElem?_eq_some_iff.1 hgb).1
    have hsz : ss.toArray.size < 4611686018427387904 := by
      have : ss.toArray.size = ss.length := by simp
      have hm := hSN ss hS
      omega
    have cS := AnyQ.slices_SortFunc_total srt 3 isAgg24 sizeOf24 cA (fun _ => rfl) (fun x v hv => by simp [cA] at hv; rcases hv with rfl | rfl | rfl <;> rfl) cfA swoA 50 #[] gb 0 cap ss.toArray W e125 (fun m os dk _ x y => by
      have := compare_in x y (sortWorldK cA 3 W gb 0 m dk os)
      simpa [cA] using this) hH hgl hsz totA
    change Calls Tryd.prog 109 _ _ _ at cS
    have hlen : ss.toArray.size = ss.length := by simp
    rw [hlen] at cS
    have hl2 : (srtA ss).length = ss.length := (srtA_perm ss).length_eq
    refine (callsIn_wide.2 cS).mono ?_
    rintro e w' ⟨rfl, nn, os, rfl⟩
    gi_wp2
    go_ret
    have hsrt : (ss.toArray.toList.mergeSort fun x y => !(ltOf cfA) y x) = srtA ss := by simp [srtA]
    refine ⟨_, ss, rfl, hS, ?_, hnil, ?_⟩
    · refine ⟨?_, .inr ⟨gb, cap, _, rfl, hbase, heap_sortedA _ hgb, r1, r2, by simp [putCells, r3], ?_⟩⟩
      · have := hrow.1
        rw [← flatA_eq] at this ⊢
        simp [hl2]
      · rw [hsrt]
        have := take_putA cur (flatK cA 3 (srtA ss).toArray) (by simp [hl2, r3]; omega)
        rw [size_flatK] at this
        rw [show ss.length * 3 = (srtA ss).toArray.size * 3 by simp [hl2], this, flatA_eq]
    · exact hb.grown (grownBy_sortedA _) hb.size (fun j hj => by cases hj; exact hbase)
end Go.Proofs.YtljeiencnpnbkaaDoor
