/-
  cmp.Compare, cmp.Or, hazards.Held$1, walked.
-/
import Derived.Shelf.SlSortCmp.WholeK
import Derived.Shelf.SlSortCmp.QuietGrown
import Derived.Lib.Small
import Derived.Test.YtljeiencnpnbkaaDoorEvSplit
import Derived.Test.YtljeiencnpnbkaaDoorUKrc
import Derived.WalkKit
import Derived.Test.YtljeiencnpnbkaaDoorProg
set_option linter.unusedSimpArgs false
set_option linter.unusedVariables false
namespace Go.Proofs.YtljeiencnpnbkaaDoor
open Go Go.Proofs Go.RowKit Go.Shelf Go.Lib Go.Sort

theorem isNaN8 (x : Int) (w : World) : Calls Tryd.prog 113 #[.int .u32 x] w fun e w' => e = .returned (.bool false) ∧ w' = w := by
  go_enter Tryd.func113, Tryd.ntmps113
  go_wp2
  go_ret
  exact ⟨by simp, rfl⟩
theorem isNaN64 (x : Int) (w : World) : Calls Tryd.prog 112 #[.int .i64 x] w fun e w' => e = .returned (.bool false) ∧ w' = w := by
  go_enter Tryd.func112, Tryd.ntmps112
  go_wp2
  go_ret
  exact ⟨by simp, rfl⟩
set_option maxHeartbeats 1000000 in
theorem cmp8 (x y : Int) (w : World) : Calls Tryd.prog 53 #[.int .u32 x, .int .u32 y] w fun e w' => e = .returned (.int .i64 (Lib.compareInt x y)) ∧ w' = w := by
  go_enter Tryd.func53, Tryd.ntmps53
  go_wp2_with (go_at_call 113; refine (isNaN8 _ _).mono ?_; rintro e w' ⟨rfl, hw⟩; rw [hw])
  all_goals (go_ret; refine ⟨?_, rfl⟩; unfold Lib.compareInt; (repeat' split) <;> first | rfl | (exfalso; omega))
set_option maxHeartbeats 1000000 in
theorem cmp64 (x y : Int) (w : World) : Calls Tryd.prog 52 #[.int .i64 x, .int .i64 y] w fun e w' => e = .returned (.int .i64 (Lib.compareInt x y)) ∧ w' = w := by
  go_enter Tryd.func52, Tryd.ntmps52
  go_wp2_with (go_at_call 112; refine (isNaN64 _ _).mono ?_; rintro e w' ⟨rfl, hw⟩; rw [hw])
  all_goals (go_ret; refine ⟨?_, rfl⟩; unfold Lib.compareInt; (repeat' split) <;> first | rfl | (exfalso; omega))

def orI (x y : Int) : Int := if x = 0 then y else x
set_option maxHeartbeats 1000000 in
theorem or2 (B : Nat) (x y : Int) (w : World) (h0 : w.cell? ⟨B, 0, none⟩ = some (.int .i64 x)) (h1 : w.cell? ⟨B, 1, none⟩ = some (.int .i64 y)) :
    Calls Tryd.prog 51 #[.slice (some ⟨B, 0, none⟩) 2 2] w fun e w' => e = .returned (.int .i64 (orI x y)) ∧ w' = w := by
  go_enter Tryd.func51, Tryd.ntmps51
  go_wp2
  go_loop [8] (fun i => ∃ k : Nat, k ≤ 2 ∧ i = .int .i64 k ∧ (0 < k → x = 0) ∧ (1 < k → y = 0)) (fun i => 2 - (intOf i).toNat)
  case atStart => exact ⟨0, by omega, rfl, fun h => absurd h (by omega), fun h => absurd h (by omega)⟩
  case round =>
    obtain ⟨k, hk, rfl, q0, q1⟩ := hrel
    have hc : k < 2 → ∃ v, w.cell? ⟨B, 0 + k, none⟩ = some (.int .i64 v) ∧ (k = 0 → v = x) ∧ (k = 1 → v = y) := fun h => by
      rcases (show k = 0 ∨ k = 1 by omega) with rfl | rfl
      · exact ⟨x, h0, fun _ => rfl, fun h => by omega⟩
      · exact ⟨y, h1, fun h => by omega, fun _ => rfl⟩
    by_cases hlt : k < 2
    · obtain ⟨v, hv, e0, e1⟩ := hc hlt
      rw [Nat.zero_add] at hv
      by_cases hz : v = 0
      · subst hz
        go_wp2
        go_round
        case rel => exact ⟨k + 1, by omega, by simp, fun _ => by (by_cases k = 0 <;> first | exact q0 (by omega) | exact (e0 (by assumption)).symm), fun _ => by (by_cases k = 1 <;> first | exact q1 (by omega) | exact (e1 (by assumption)).symm)⟩
        case measure => simp [intOf]; omega
      · have hb : (v != 0) = true := by simp [hz]
        go_wp2
        go_ret
        refine ⟨?_, rfl⟩
        unfold orI
        rcases (show k = 0 ∨ k = 1 by omega) with rfl | rfl
        · rw [if_neg (by rw [← e0 rfl]; exact hz), e0 rfl]; rfl
        · rw [if_pos (q0 (by omega)), e1 rfl]; rfl
    · obtain rfl : k = 2 := by omega
      go_wp2
      go_ret
      refine ⟨?_, rfl⟩
      have e0 := q0 (by omega); have e1 := q1 (by omega)
      subst e0; subst e1; rfl

def cfA (x y : Int × Int) : Int := orI (Lib.compareInt x.1 y.1) (Lib.compareInt x.2 y.2)
set_option maxHeartbeats 4000000 in
theorem compare_in (x y : Int × Int) (w : World) : Calls Tryd.prog 50 #[.agg #[.int .i64 x.1, .int .u32 x.2, .bool false], .agg #[.int .i64 y.1, .int .u32 y.2, .bool false]] w fun e w' => e = .returned (.int .i64 (cfA x y)) ∧ ∃ q os', w' = grow (w.drewN q) os' := by
  have mixed : Tryd.prog.follows .mixedOrders = true := by kernel_rfl
  go_enter Tryd.func50, Tryd.ntmps50
  go_wp2
  obtain ⟨w0, hw0⟩ : ∃ w0, (w.alloc (.cells #[.int .i64 x.1, .int .u32 x.2, .bool false] 25)).alloc (.cells #[.int .i64 y.1, .int .u32 y.2, .bool false] 25) = w0 := ⟨_, rfl⟩
  have hx0 := (Below.heap_alloc (w.alloc (.cells #[.int .i64 x.1, .int .u32 x.2, .bool false] 25)) (.cells #[.int .i64 y.1, .int .u32 y.2, .bool false] 25) w.heap.size (by simp)).trans (World.alloc_heap_new w _)
  have hy0 := World.alloc_heap_new (w.alloc (.cells #[.int .i64 x.1, .int .u32 x.2, .bool false] 25)) (.cells #[.int .i64 y.1, .int .u32 y.2, .bool false] 25)
  rw [World.size_alloc] at hy0
  have hs0 : w0.heap.size = w.heap.size + 1 + 1 := by rw [← hw0]; simp
  rw [hw0] at hx0 hy0 ⊢
  have gx : ∀ j v, w0.cell? ⟨w.heap.size, j, none⟩ = some v → ∀ n os, (grow (w0.drewN n) os).cell? ⟨w.heap.size, j, none⟩ = some v := fun j v h n os => cell_grown (by show w.heap.size < _; omega) h n os
  have gy : ∀ j v, w0.cell? ⟨w.heap.size + 1, j, none⟩ = some v → ∀ n os, (grow (w0.drewN n) os).cell? ⟨w.heap.size + 1, j, none⟩ = some v := fun j v h n os => cell_grown (by show w.heap.size + 1 < _; omega) h n os
  have x0 := gx 0 (.int .i64 x.1) (by simp [World.cell?, hx0]); have x1 := gx 1 (.int .u32 x.2) (by simp [World.cell?, hx0])
  have y0 := gy 0 (.int .i64 y.1) (by simp [World.cell?, hy0]); have y1 := gy 1 (.int .u32 y.2) (by simp [World.cell?, hy0])
  have c8 : ∀ a b n os, Calls Tryd.prog 53 #[.int .u32 a, .int .u32 b] (grow (w0.drewN n) os) fun e w' => e = .returned (.int .i64 (Lib.compareInt a b)) ∧ ∃ q os', w' = grow ((grow (w0.drewN n) os).drewN q) os' := fun a b n os => (cmp8 a b _).mono fun e w' ⟨he, hw⟩ => ⟨he, 0, #[], by rw [hw, grow_empty]; rfl⟩
  have c64 : ∀ a b n os, Calls Tryd.prog 52 #[.int .i64 a, .int .i64 b] (grow (w0.drewN n) os) fun e w' => e = .returned (.int .i64 (Lib.compareInt a b)) ∧ ∃ q os', w' = grow ((grow (w0.drewN n) os).drewN q) os' := fun a b n os => (cmp64 a b _).mono fun e w' ⟨he, hw⟩ => ⟨he, 0, #[], by rw [hw, grow_empty]; rfl⟩
  refine Go.Ev.region_split (C := fun w' => ∃ p : GrownBy, w' = grow (w0.drewN p.n) p.os) (l1 := [_, _, _, _, _, _, _, _, _, _]) (l2 := [_, _, _]) mixed (by kernel_rfl) ⟨⟨1, #[]⟩, by rw [grow_empty]; rfl⟩ ?_
  repeat (quiet_step (first | (go_at_call 53; refine Calls.grown_of (c8 _ _ _ _)) | (go_at_call 52; refine Calls.grown_of (c64 _ _ _ _))))
  refine wpQuiet_nil ?_
  rintro w1 ⟨⟨nq, osq⟩, rfl⟩
  simp only [List.cons_append, List.nil_append]
  obtain ⟨w1, hw1⟩ : ∃ w1, grow (w0.drewN nq) osq = w1 := ⟨_, rfl⟩
  rw [hw1]
  have hz := World.alloc_heap_new w1 (.cells #[.int .i64 (Lib.compareInt x.1 y.1), .int .i64 (Lib.compareInt x.2 y.2)] 3)
  have hor := or2 w1.heap.size (Lib.compareInt x.1 y.1) (Lib.compareInt x.2 y.2) (w1.alloc (.cells #[.int .i64 (Lib.compareInt x.1 y.1), .int .i64 (Lib.compareInt x.2 y.2)] 3)) (by unfold World.cell?; simp only [hz]; rfl) (by unfold World.cell?; simp only [hz]; rfl)
  go_wp2_with (go_at_call 51; refine hor.mono ?_; rintro e w' ⟨rfl, rfl⟩)
  go_ret
  refine ⟨rfl, nq, #[.cells #[.int .i64 x.1, .int .u32 x.2, .bool false] 25] ++ #[.cells #[.int .i64 y.1, .int .u32 y.2, .bool false] 25] ++ osq ++ #[.cells #[.int .i64 (Lib.compareInt x.1 y.1), .int .i64 (Lib.compareInt x.2 y.2)] 3], ?_⟩
  rw [← hw1, ← hw0, alloc_eq_grow, alloc_eq_grow, alloc_eq_grow, ← grow_grow, ← grow_grow, ← grow_grow]
  rfl
end Go.Proofs.YtljeiencnpnbkaaDoor
