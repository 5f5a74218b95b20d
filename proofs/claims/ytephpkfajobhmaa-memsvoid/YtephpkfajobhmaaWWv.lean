/-
  Words of a memory that is not there, or that no call made: walked.
-/
import Derived.Test.YtephpkfajobhmaaWWg
set_option linter.unusedSimpArgs false
set_option linter.unusedVariables false
namespace Go.Proofs.Ytephpkfajobhmaa
open Go Go.Proofs Go.RowKit Go.Shelf Go.Sort
attribute [local go_sem] Oper.semAt_some
/-- No memory. -/
def VoidAt (n1 : Nat) (W : World) (p : Option Addr) : Prop := p = none ∨ ∃ b o, p = some ⟨b, o, none⟩ ∧ b < n1 ∧ W.cell? ⟨b, o, none⟩ = some (.map none)
theorem VoidAt.below {n1 : Nat} {W W' : World} {p : Option Addr} (h : VoidAt n1 W p) (hB : Below n1 W W') : VoidAt n1 W' p := by
  rcases h with h | ⟨b, o, h1, h2, h3⟩
  · exact .inl h
  · exact .inr ⟨b, o, h1, h2, (hB.cell (p := ⟨b, o, none⟩) h2).trans h3⟩
set_option maxRecDepth 100000 in
set_option maxHeartbeats 1000000 in
theorem there_none (F : Fence) (n : Nat) (h7 : F.fn 121) (hro : F.round = none) (W : World) :
    CallsIn F n Try.prog 121 #[.pointer none] W fun e w' => e = .returned (.bool false) ∧ w' = W := by
  refine callsIn_of_wp Try.func121 rfl h7 ?_ hro
  simp only [Try.ntmps121, List.size_toArray, List.length_cons, List.length_nil, Nat.reduceAdd, Nat.reduceSub, Array.replicate_succ, Array.replicate_zero, List.push_toArray, List.append_toArray, List.nil_append, List.cons_append]
  gi_wp2
  go_ret
  exact ⟨by simp, rfl⟩
set_option maxRecDepth 100000 in
set_option maxHeartbeats 1000000 in
theorem there_nil (F : Fence) (n : Nat) (h7 : F.fn 121) (hro : F.round = none) (b1 o1 : Nat) (W : World) (hm : W.cell? ⟨b1, o1, none⟩ = some (.map none)) :
    CallsIn F n Try.prog 121 #[.pointer (some ⟨b1, o1, none⟩)] W fun e w' => e = .returned (.bool false) ∧ w' = W := by
  refine callsIn_of_wp Try.func121 rfl h7 ?_ hro
  simp only [Try.ntmps121, List.size_toArray, List.length_cons, List.length_nil, Nat.reduceAdd, Nat.reduceSub, Array.replicate_succ, Array.replicate_zero, List.push_toArray, List.append_toArray, List.nil_append, List.cons_append]
  have qT := fun (w : World) (r : Option Nat) => run_neq_map_nil (P := Try.prog) w _ _ _ r Try.underlying26
  gi_wp2
  go_ret
  exact ⟨by simp, rfl⟩
theorem there_void (F : Fence) (n : Nat) (h7 : F.fn 121) (hro : F.round = none) (n1 : Nat) (p : Option Addr) (W : World) (hm : VoidAt n1 W p) :
    CallsIn F n Try.prog 121 #[.pointer p] W fun e w' => e = .returned (.bool false) ∧ w' = W := by
  rcases hm with rfl | ⟨b, o, rfl, _, h⟩
  · exact there_none F n h7 hro W
  · exact there_nil F n h7 hro b o W h
set_option maxRecDepth 100000 in
set_option maxHeartbeats 1000000 in
theorem each1_void (n : Nat) (hn : 10 ≤ n) (l Bm n1 : Nat) (p : Option Addr) (W : World) (hBm : W.heap[Bm]? = some (.cells #[.pointer p] 32 (0, 0))) (hm : VoidAt n1 W p) :
    CallsIn Fence.wide n Try.prog 122 #[.func (.yield l) #[] #[], .pointer (some ⟨Bm, 0, none⟩)] W fun e W' => (∃ v, e = .returned v) ∧ W' = W := by
  have hc0 : W.cell? ⟨Bm, 0, none⟩ = some (.pointer p) := by simp [World.cell?, hBm]
  have h1 : 1 ≤ n := by omega
  refine callsIn_of_wp Try.func122 rfl trivial ?_ rfl
  simp only [Try.ntmps122, List.size_toArray, List.length_cons, List.length_nil, Nat.reduceAdd, Nat.reduceSub, Array.replicate_succ, Array.replicate_zero, List.push_toArray, List.append_toArray, List.nil_append, List.cons_append]
  have f121 : Fence.wide.fn 121 := trivial
  gi_wp2_with (gi_at_call 121; refine (there_void Fence.wide (n - 1) trivial rfl n1 p _ hm).mono ?_; rintro e w' ⟨rfl, hw⟩; rw [hw])
  exact bodyPost_ret (v := .tuple #[]) (by simp [results, Try.results122, go_sem]) rfl ⟨⟨_, rfl⟩, rfl⟩
theorem each_void (n : Nat) (hn : 10 ≤ n) (Bm n1 : Nat) (p : Option Addr) (w : World) (hn1 : n1 ≤ w.heap.size) (hm : VoidAt n1 w p) (hBm : w.heap[Bm]? = some (.cells #[.pointer p] 32 (0, 0))) :
    SeqStopsK Fence.wide n Try.prog 122 #[.pointer (some ⟨Bm, 0, none⟩)] (fun x => #[encW x]) (Kw n1) (fun ys => ys = []) (fun _ => True) 0 w := fun l J Jx W hW hJ _ hY h0 =>
  (each1_void n hn l Bm n1 p W ((hW.block Bm (Array.getElem?_eq_some_iff.1 hBm).1).trans hBm) (hm.below (hW.mono hn1))).mono fun e W' ⟨hv, hw⟩ => ⟨hv, .inl ⟨[], rfl, by rw [hw]; exact h0⟩⟩
set_option maxRecDepth 100000 in
set_option maxHeartbeats 4000000 in
theorem Words_void (n : Nat) (hn : 12 ≤ n) (p : Option Addr) (w : World) (hm : VoidAt w.heap.size w p) :
    CallsIn Fence.wide n Try.prog 20 #[.pointer p] w fun e W' => e = .returned (.slice none 0 0) ∧ Below w.heap.size w W' := by
  have h1 : 1 ≤ n := by omega
  obtain ⟨i0, hi, hz0, hz1, hz2⟩ := info_parts info47
  refine callsIn_of_wp_marks Try.func20 rfl trivial ?_ rfl
  simp only [Try.ntmps20, List.size_toArray, List.length_cons, List.length_nil, Nat.reduceAdd, Nat.reduceSub, Array.replicate_succ, Array.replicate_zero, List.push_toArray, List.append_toArray, List.nil_append, List.cons_append]
  have f79 : Fence.wide.fn 79 := trivial
  have f80 : Fence.wide.fn 80 := trivial
  gi_wp2_with (gi_at_call 79; refine (each_in Fence.wide (n - 1) trivial rfl _ _).mono ?_; rintro e w' ⟨rfl, rfl⟩)
  have bO := (Boxed.new w 39 (.slice none 0 0)).alloc (.cells #[.pointer p] 32)
  have hN := World.alloc_heap_new (w.alloc (.cells #[.slice none 0 0] 39)) (.cells #[.pointer p] 32)
  rw [World.size_alloc] at hN
  have hB0 : Below w.heap.size w ((w.alloc (.cells #[.slice none 0 0] 39)).alloc (.cells #[.pointer p] 32)) := ((Below.refl _ w).alloc (Nat.le_refl _) _).alloc (by simp) _
  obtain ⟨W0, hW0⟩ : ∃ W0, (w.alloc (.cells #[.slice none 0 0] 39)).alloc (.cells #[.pointer p] 32) = W0 := ⟨_, rfl⟩
  have hs0 : W0.heap.size = w.heap.size + 1 + 1 := by rw [← hW0]; simp
  rw [hW0] at bO hN hB0 ⊢
  refine wpIn_rangeFunc_ownH rfl h1 (gf := 122) (lb := #[.pointer (some ⟨w.heap.size + 1, 0, none⟩)]) rfl trivial (enters_of Try.func122 (by kernel_rfl) rfl)
    (each_void (n - 1) (by omega) (w.heap.size + 1) w.heap.size p W0 (by omega) (hm.below hB0) hN) Kw.trans (fun W l o o' hl h hc _ => Kw.putObj W l o o' (by omega) h hc) (Below.refl _ _) (fun _ => rfl)
    (fun pre W => (∃ v, Boxed W w.heap.size 39 v ∧ W.ownsRow w.heap.size 47 4 v pre.length (flW pre) ∧ (v = .slice none 0 0 ↔ pre = [])) ∧ Below w.heap.size w W)
    (fun _ _ _ => False)
    (OwnFrom.and (Own.from (holdsRow_own w.heap.size w.heap.size 39 47 4 (fun pre => pre.length) (fun pre => flW pre) (fun pre v => v = .slice none 0 0 ↔ pre = [])) _) (ownFrom_below (Nat.le_refl _) (by omega)))
    (fun _ _ _ _ _ hs _ _ => hs)
    ⟨⟨_, bO, World.ownsRow_nil _ _ _ _, by simp⟩, hB0⟩
    (fun x a' W => ∃ Bx, w.heap.size < Bx ∧ Cels W Bx 47 (cW x) ∧ a' = { tmps := #[.pointer p, undef, .pointer (some ⟨w.heap.size, 0, none⟩), .pointer (some ⟨Bx, 0, none⟩), .pointer p, .func (.func 122) #[] #[.pointer (some ⟨w.heap.size + 1, 0, none⟩)], encW x, undef, undef, undef, undef, undef, undef], defers := [] })
    (fun x a' _ X Y row hs hg hr => by obtain ⟨Bx, h1, h2, h3⟩ := hs; exact ⟨Bx, h1, cels_own Bx 47 (fun (_ : Unit) => cW x) () X Y row h2 hg (fun r e => (hr r e).2), h3⟩)
    ?assign ?body ?done ?stop
  case assign =>
    rintro l pre x W K ⟨⟨v, hv, hrow, hnil⟩, hB⟩ hK
    unfold encW at hK ⊢
    gi_wp2
    exact hK _ _ ((KeepsOthers.alloc _ _).from _) (Kw.alloc W hB.size _) ⟨⟨v, hv.alloc _, hrow.alloc _, hnil⟩, hB.alloc hB.size _⟩ ⟨W.heap.size, hv.lt, World.alloc_heap_new W _, rfl⟩
  case body =>
    rintro l pre x a' W hl ⟨r, hr⟩ _ _ hlt
    exact (Nat.not_lt_zero _ hlt).elim
  case done =>
    rintro D ys W hD rfl ⟨⟨v, hv, hrow, hnil⟩, hB⟩ hK
    have hc := hv.cell
    have hf := hv.frozen
    have hK2 : ∀ u, (W.setCell ⟨w.heap.size, 0, none⟩ u).heap[D]? = some (.deferred (some [])) := fun u => (Below.heap_setCell _ _ _ D (by show D ≠ w.heap.size; omega)).trans hK
    have hB2 : ∀ u, Below w.heap.size w ((W.setCell ⟨w.heap.size, 0, none⟩ u).putObj D (.deferred none)) := fun u =>
      (hB.setCell (p := ⟨w.heap.size, 0, none⟩) (Nat.le_refl _) u).trans (belowK_b (w := w) (Nat.le_refl _) _ D _ _ (by omega) (hK2 u) rfl rfl)
    have hc2 : ∀ u, ((W.setCell ⟨w.heap.size, 0, none⟩ u).putObj D (.deferred none)).cell? ⟨w.heap.size, 0, none⟩ = some u := fun u =>
      ((hv.set u).kept (grownBy_putObj' _ D _) (by simp; omega)).cell
    have hg2 : ∀ u g o, W.heap[g]? = some o → g ≠ D → g ≠ w.heap.size → ((W.setCell ⟨w.heap.size, 0, none⟩ u).putObj D (.deferred none)).heap[g]? = some o := fun u g o hg h1 h2 =>
      (World.putObj_heap_other h1).trans ((Below.heap_setCell _ _ _ g (by show g ≠ w.heap.size; exact h2)).trans hg)
    have hvn : v = .slice none 0 0 := hnil.2 rfl
    subst hvn
    clear hnil hrow
    gi_wp2_with (gi_at_call 80; refine (clipW_nil Fence.wide (n - 1) trivial rfl _).mono ?_; rintro e w' ⟨rfl, rfl⟩)
    exact ⟨by simp, .inl ⟨_, _, rfl, run_takeDeferred (b := D) (hK2 _), ⟨_, results_box rfl _ _ rfl (hc2 _) Try.underlying39, rfl, hB2 _⟩⟩⟩
  case stop =>
    rintro D c pre W _ _ h _
    exact h.elim
end Go.Proofs.Ytephpkfajobhmaa
