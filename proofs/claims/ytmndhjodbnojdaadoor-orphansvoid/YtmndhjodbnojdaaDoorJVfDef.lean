/-
  OrphansVoid: definitions.
-/
import Derived.Test.YtmndhjodbnojdaaDoorJVe
import Derived.Test.YtmndhjodbnojdaaDoorJL12
import Derived.Test.YtmndhjodbnojdaaDoorJBeg
set_option linter.unusedSimpArgs false
set_option linter.unusedVariables false
namespace Go.Proofs.YtmndhjodbnojdaaDoor
open Go.Ev
noncomputable def EOv : Env := envG Tryd.prog ([(31, tabSP 0 tab sNone), (32, locSP bgSpec), (34, orSP (locSP ngzSpec) (locSP ngnSpec))] ++ memSP)
theorem EOv_ok : EnvOk EOv := envG_ok mgood ⟨tabSP_ok rfl (sNone_ok l12_pure), locSP_ok bgSpec_ok, orSP_ok (locSP_ok ngzSpec_ok) (locSP_ok ngnSpec_ok), memSP_ok⟩
def ovHs : Nat → List Hint
  | 0 => [.b false, .b true]
  | k + 1 => .b true :: .node [(1, [.b false])] :: .b false :: .b false :: ovHs k
def ovHints (n : Nat) : List Hint := .b false :: .b false :: .a .top :: ovHs n
noncomputable def ovRun (m : Nat) (f : Nat → Nat → AV) (n : Nat) (g : Nat → Nat → AV) (hh : List Hint) : Option (AV × List Prop × Bool) := (callF EOv 6000 6 [.ss 4 1 0 m none, .ss 6 2 0 n none] ⟨(tabsH [(0, tab)] ++ [(1, .arr 4 wSh true m f), (2, .arr 6 ySh true n g)]), 3, gnm 0, hh, [], [], false⟩).map (fun x => (x.1, x.2.ob, noneIn (tabsH [(0, tab)] ++ [(1, .arr 4 wSh true m f), (2, .arr 6 ySh true n g)]) x.2.wr))
noncomputable def ovF (g : Nat → Nat → AV) (n i : Nat) : Nat → Nat → AV := fun a j => if a < n then g (0 + (0 + a)) j else rowsOf 6 [.sym .i64 (avInt (g i 0)), .sym .u32 (avInt (g i 1)), .symb (avBool (g i 2)), .sym .u64 (avInt (g i 3)), .sym .u64 (avInt (g i 4)), .sym .u64 (avInt (g i 5))] (a - n) j
/-- What a round asks for. -/
noncomputable def ovB (n : Nat) (g : Nat → Nat → AV) (i : Nat) : List Prop :=
  [n ≤ n, n ≤ 1000000, ∃ q, q < n ∧ ¬ Gd (Ev.upd (fun a j => g (0 + a) j) i 0 [.int .i64 256]) q, n ≤ n, n ≤ 1000000, ∃ q, q < n ∧ ¬ Gd (Ev.upd (fun a j => g (0 + a) j) i 2 [.bool true]) q, n + 1 ≤ n + 1, n + 1 ≤ 1000000, ∃ q, q < n + 1 ∧ ¬ Gd (ovF g n i) q,
   Nat.blt i n = true, (Nat.blt i n && decide (0 ≤ Int.ofNat i)) = true, Nat.beq n 0 = false, Nat.ble (n * 40) 70368744177664 = true, Nat.ble n n = true,
   Nat.blt i n = true, (Nat.blt i n && decide (0 ≤ Int.ofNat i)) = true, Nat.beq n 0 = false, Nat.ble (n * 40) 70368744177664 = true, Nat.ble n n = true,
   Nat.ble ((n + 1) * 40) 70368744177664 = true, Nat.ble n n = true, Nat.blt i n = true, (Nat.blt i n && decide (0 ≤ Int.ofNat i)) = true, Nat.beq n 0 = false, Nat.ble (n * 40) 70368744177664 = true, Nat.ble n n = true, decide (Int.ofNat i < Int.ofNat n) = true]
noncomputable def ovM (n : Nat) (g : Nat → Nat → AV) : Nat → List Prop → List Prop
  | 0, l => l
  | i + 1, l => ovB n g i ++ ovM n g i l
noncomputable def ovObs (m : Nat) (f : Nat → Nat → AV) (n : Nat) (g : Nat → Nat → AV) : List Prop :=
  TabIs tab (tabF tab) :: (((msN (bgW f) m).st == (msN (bgW f) m).st) = true) :: (decide (Int.ofNat n < Int.ofNat n) = false) :: ovM n g n [m ≤ m, m ≤ 300, ∀ (i : Nat), i < m → 0 ≤ avInt (f i 0), decide (Int.ofNat n > 20) = false, decide (Int.ofNat m > 300) = false]
theorem ov_far {g : Nat → Nat → AV} {n i : Nat} (hi : i < n) : ∃ q, q < n ∧ ¬ Gd (Ev.upd (fun a j => g (0 + a) j) i 0 [.int .i64 256]) q := ⟨i, hi, fun h => by
  have e : yK (Ev.upd (fun a j => g (0 + a) j) i 0 [.int .i64 256]) i = 256 := by
    show avInt (if 0 + i = i then _ else _) = _
    rw [if_pos (Nat.zero_add i)]; rfl
  have := h.b
  rw [e] at this; exact absurd this (by decide)⟩
theorem ov_marked {g : Nat → Nat → AV} {n i : Nat} (hi : i < n) : ∃ q, q < n ∧ ¬ Gd (Ev.upd (fun a j => g (0 + a) j) i 2 [.bool true]) q := ⟨i, hi, fun h => by
  have e : avBool (Ev.upd (fun a j => g (0 + a) j) i 2 [.bool true] (0 + i) 2) = true := by
    show avBool (if 0 + i = i then _ else _) = _
    rw [if_pos (Nat.zero_add i)]; rfl
  have := h.c
  rw [e] at this; cases this⟩
theorem ov_twice {g : Nat → Nat → AV} {n i : Nat} (hi : i < n) : ∃ q, q < n + 1 ∧ ¬ Gd (ovF g n i) q := ⟨n, Nat.lt_succ_self n, fun h => by
  have e1 : yK (ovF g n i) n = avInt (g i 0) := by
    unfold yK ovF
    rw [Nat.zero_add, if_neg (Nat.lt_irrefl n), Nat.sub_self]; rfl
  have e2 : yK (ovF g n i) i = avInt (g i 0) := by
    unfold yK ovF
    rw [Nat.zero_add, if_pos hi, Nat.zero_add, Nat.zero_add]
  have : anyE n (nF (yK (ovF g n i))) (yK (ovF g n i) n) = true := anyE_iff.2 ⟨i, hi, by show _ = yK (ovF g n i) i; rw [e1, e2]⟩
  rw [h.d] at this; cases this⟩
theorem ovB_ok {g : Nat → Nat → AV} {n i : Nat} (hi : i < n) (hn : n ≤ 20) : ∀ p ∈ ovB n g i, p := by
  have a1 : Nat.blt i n = true := by simpa [Nat.blt_eq] using hi
  have a2 : (Nat.blt i n && decide (0 ≤ Int.ofNat i)) = true := by rw [a1]; simp
  have a3 : Nat.beq n 0 = false := by
    cases n with
    | zero => omega
    | succ n => rfl
  have a4 : Nat.ble (n * 40) 70368744177664 = true := Nat.ble_eq_true_of_le (by omega)
  have a5 : Nat.ble n n = true := Nat.ble_eq_true_of_le (Nat.le_refl _)
  have a6 : Nat.ble ((n + 1) * 40) 70368744177664 = true := Nat.ble_eq_true_of_le (by omega)
  exact cj ⟨Nat.le_refl _, by omega, ov_far hi, Nat.le_refl _, by omega, ov_marked hi, Nat.le_refl _, by omega, ov_twice hi, a1, a2, a3, a4, a5, a1, a2, a3, a4, a5, a6, a5, a1, a2, a3, a4, a5, decide_eq_true (by show (i : Int) < n; omega), trivial⟩
theorem ovM_ok {g : Nat → Nat → AV} {n : Nat} (hn : n ≤ 20) {l : List Prop} (hl : ∀ p ∈ l, p) : ∀ i, i ≤ n → ∀ p ∈ ovM n g i l, p
  | 0, _ => hl
  | i + 1, hi => fun p hp => by
    rcases List.mem_append.1 hp with h | h
    · exact ovB_ok (by omega) hn p h
    · exact ovM_ok hn hl i (by omega) p h
theorem ovObs_ok {m : Nat} {f : Nat → Nat → AV} {n : Nat} {g : Nat → Nat → AV} (hn : n ≤ 20) (hm : m ≤ 300) (hr : ∀ i, i < m → 0 ≤ avInt (f i 0)) : ∀ p ∈ ovObs m f n g, p := by
  have hl : ∀ p ∈ [m ≤ m, m ≤ 300, ∀ (i : Nat), i < m → 0 ≤ avInt (f i 0), decide (Int.ofNat n > 20) = false, decide (Int.ofNat m > 300) = false], p := cj ⟨Nat.le_refl _, hm, hr, decide_eq_false (by show ¬ (n : Int) > 20; omega), decide_eq_false (by show ¬ (m : Int) > 300; omega), trivial⟩
  exact ob_cons (tabIs_self _) (ob_cons (by simp) (ob_cons (decide_eq_false (Int.lt_irrefl _)) (ovM_ok hn hl n (Nat.le_refl _))))
end Go.Proofs.YtmndhjodbnojdaaDoor
