/-
  Retires: Sweep: definitions.
-/
import Derived.Test.YtmlfmmnnbdlabaaNrBorn2
set_option linter.unusedSimpArgs false
set_option linter.unusedVariables false
namespace Go.Proofs.Ytmlfmmnnbdlabaa
open Go.Ev
def entAt (L : List Ent) : Nat → Ent := fun j => L.getD j ⟨0, 0, false, 0, 0, 0⟩
def swP (m : Nat) (h : Nat → Nat → AV) (i : Nat) : Bool := and2 (decide (i < m)) (avBool (h (0 + i) 0))
/-- Those of the first i that go; that stay; the refs that are left. -/
def swG (E : Nat → Ent) (p : Nat → Bool) : Nat → List Ent
  | 0 => []
  | i + 1 => if p i = true then swG E p i ++ [E i] else swG E p i
def swS (E : Nat → Ent) (p : Nat → Bool) : Nat → List Ent
  | 0 => []
  | i + 1 => if p i = true then swS E p i else swS E p i ++ [E i]
def swM (M : List Int → Option Int) (E : Nat → Ent) (p : Nat → Bool) : Nat → List Int → Option Int
  | 0 => M
  | i + 1 => if p i = true then setKey (swM M E p i) (eKey (E i)) none else swM M E p i
theorem swG_len (E : Nat → Ent) (p : Nat → Bool) : ∀ i, (swG E p i).length ≤ i
  | 0 => Nat.le_refl _
  | i + 1 => by
    have := swG_len E p i
    simp only [swG]; split <;> simp <;> omega
theorem swS_len (E : Nat → Ent) (p : Nat → Bool) : ∀ i, (swS E p i).length ≤ i
  | 0 => Nat.le_refl _
  | i + 1 => by
    have := swS_len E p i
    simp only [swS]; split <;> simp <;> omega
theorem entAt_app (L : List Ent) (e : Ent) : entAt (L ++ [e]) = fun j => if j < L.length then entAt L j else if j = L.length then e else entAt (L ++ [e]) j := by
  funext j
  by_cases c : j < L.length
  · rw [if_pos c]; unfold entAt; simp [List.getD, List.getElem?_append_left c]
  · rw [if_neg c]
    by_cases d : j = L.length
    · subst d; rw [if_pos rfl]; unfold entAt; simp [List.getD]
    · rw [if_neg d]
/-- A row that is appended. -/
theorem app_rows {L : List Ent} {e : Ent} {z : List AV} (hz : entOf (fun j => rowsOf 6 z 0 j) = e) (k : Nat) (hk : k ≤ L.length + 1) : ∀ i, i < k → rowOb eSh 0 (fun j => if i < L.length then entF (entAt L) (0 + i) j else rowsOf 6 z (i - L.length) j) (entF (entAt (L ++ [e])) i) := fun i hi => by
  unfold entF
  rw [entAt_app]
  by_cases c : i < L.length
  · simp only [c, if_true, Nat.zero_add]
    exact row_ent rfl
  · have d : i = L.length := by omega
    subst d
    simp only [Nat.lt_irrefl, if_false, Nat.sub_self, if_true]
    exact row_ent hz
theorem one_rows {L : List Ent} {e : Ent} {z : Nat → Nat → AV} (hL : L = []) (hz : entOf (z 0) = e) : ∀ i, i < (L ++ [e]).length → rowOb eSh 0 (z i) (entF (entAt (L ++ [e])) i) := fun i hi => by
  subst hL
  have d : i = 0 := by simp at hi; omega
  subst d
  exact row_ent hz
noncomputable def swU (n l m lm : Nat) (r : Bool) (f h : Nat → Nat → AV) (M : List Int → Option Int) : St := ⟨[.ptr 1 0 0, .ss 1 4 0 m none, .top, .top, .top, .nils, .nils, .top, .top, .top, .top, .top, .top, .top, .ss 6 2 0 n none, .sym .i64 (Int.ofNat n), .int .i64 0] ++ List.replicate 35 .top, ⟨[(1, .cells 2 [.ss 6 2 0 n none, .map 3]), (2, .arr 6 eSh false l f), (3, .map 119 M), (4, .arr 1 [.bool] r lm h)], 5, gnm 0, [], [], [], false⟩⟩
noncomputable def swT00 (n l m lm : Nat) (r : Bool) (f h : Nat → Nat → AV) (G S : List Ent) (M : List Int → Option Int) (i : Nat) : St := ⟨[.ptr 1 0 0, .ss 1 4 0 m none, .top, .top, .top, .nils, .nils, .top, .top, .top, .top, .top, .top, .top, .ss 6 2 0 n none, .sym .i64 (Int.ofNat n), .sym .i64 (Int.ofNat i)] ++ List.replicate 35 .top, ⟨[(1, .cells 2 [.ss 6 2 0 n none, .map 3]), (2, .arr 6 eSh false l f), (3, .map 119 M), (4, .arr 1 [.bool] r lm h)], 7, gnm 0, [], [], [3], false⟩⟩
noncomputable def swX00 (n l m lm : Nat) (r : Bool) (f h : Nat → Nat → AV) (G S : List Ent) (M : List Int → Option Int) : St := ⟨[.ptr 1 0 0, .top, .top, .top, .top, .nils, .nils] ++ List.replicate 45 .top, ⟨[(1, .cells 2 [.ss 6 2 0 n none, .map 3]), (2, .arr 6 eSh false l f), (3, .map 119 M), (4, .arr 1 [.bool] r lm h)], 7, gnm 0, [], [], [3], false⟩⟩
noncomputable def swT01 (n l m lm : Nat) (r : Bool) (f h : Nat → Nat → AV) (G S : List Ent) (M : List Int → Option Int) (i : Nat) : St := ⟨[.ptr 1 0 0, .ss 1 4 0 m none, .top, .top, .top, .nils, .ss 6 6 0 S.length none, .top, .top, .top, .top, .top, .top, .top, .ss 6 2 0 n none, .sym .i64 (Int.ofNat n), .sym .i64 (Int.ofNat i)] ++ List.replicate 35 .top, ⟨[(1, .cells 2 [.ss 6 2 0 n none, .map 3]), (2, .arr 6 eSh false l f), (3, .map 119 M), (4, .arr 1 [.bool] r lm h), (6, .arr 6 eSh false S.length (entF (entAt S)))], 7, gnm 0, [], [], [3], false⟩⟩
noncomputable def swX01 (n l m lm : Nat) (r : Bool) (f h : Nat → Nat → AV) (G S : List Ent) (M : List Int → Option Int) : St := ⟨[.ptr 1 0 0, .top, .top, .top, .top, .nils, .ss 6 6 0 S.length none] ++ List.replicate 45 .top, ⟨[(1, .cells 2 [.ss 6 2 0 n none, .map 3]), (2, .arr 6 eSh false l f), (3, .map 119 M), (4, .arr 1 [.bool] r lm h), (6, .arr 6 eSh false S.length (entF (entAt S)))], 7, gnm 0, [], [], [3], false⟩⟩
noncomputable def swT10 (n l m lm : Nat) (r : Bool) (f h : Nat → Nat → AV) (G S : List Ent) (M : List Int → Option Int) (i : Nat) : St := ⟨[.ptr 1 0 0, .ss 1 4 0 m none, .top, .top, .top, .ss 6 5 0 G.length none, .nils, .top, .top, .top, .top, .top, .top, .top, .ss 6 2 0 n none, .sym .i64 (Int.ofNat n), .sym .i64 (Int.ofNat i)] ++ List.replicate 35 .top, ⟨[(1, .cells 2 [.ss 6 2 0 n none, .map 3]), (2, .arr 6 eSh false l f), (3, .map 119 M), (4, .arr 1 [.bool] r lm h), (5, .arr 6 eSh false G.length (entF (entAt G)))], 7, gnm 0, [], [], [3], false⟩⟩
noncomputable def swX10 (n l m lm : Nat) (r : Bool) (f h : Nat → Nat → AV) (G S : List Ent) (M : List Int → Option Int) : St := ⟨[.ptr 1 0 0, .top, .top, .top, .top, .ss 6 5 0 G.length none, .nils] ++ List.replicate 45 .top, ⟨[(1, .cells 2 [.ss 6 2 0 n none, .map 3]), (2, .arr 6 eSh false l f), (3, .map 119 M), (4, .arr 1 [.bool] r lm h), (5, .arr 6 eSh false G.length (entF (entAt G)))], 7, gnm 0, [], [], [3], false⟩⟩
noncomputable def swT11 (n l m lm : Nat) (r : Bool) (f h : Nat → Nat → AV) (G S : List Ent) (M : List Int → Option Int) (i : Nat) : St := ⟨[.ptr 1 0 0, .ss 1 4 0 m none, .top, .top, .top, .ss 6 5 0 G.length none, .ss 6 6 0 S.length none, .top, .top, .top, .top, .top, .top, .top, .ss 6 2 0 n none, .sym .i64 (Int.ofNat n), .sym .i64 (Int.ofNat i)] ++ List.replicate 35 .top, ⟨[(1, .cells 2 [.ss 6 2 0 n none, .map 3]), (2, .arr 6 eSh false l f), (3, .map 119 M), (4, .arr 1 [.bool] r lm h), (5, .arr 6 eSh false G.length (entF (entAt G))), (6, .arr 6 eSh false S.length (entF (entAt S)))], 7, gnm 0, [], [], [3], false⟩⟩
noncomputable def swX11 (n l m lm : Nat) (r : Bool) (f h : Nat → Nat → AV) (G S : List Ent) (M : List Int → Option Int) : St := ⟨[.ptr 1 0 0, .top, .top, .top, .top, .ss 6 5 0 G.length none, .ss 6 6 0 S.length none] ++ List.replicate 45 .top, ⟨[(1, .cells 2 [.ss 6 2 0 n none, .map 3]), (2, .arr 6 eSh false l f), (3, .map 119 M), (4, .arr 1 [.bool] r lm h), (5, .arr 6 eSh false G.length (entF (entAt G))), (6, .arr 6 eSh false S.length (entF (entAt S)))], 7, gnm 0, [], [], [3], false⟩⟩
noncomputable def swQ (n l m lm : Nat) (r : Bool) (f h : Nat → Nat → AV) (G S : List Ent) (M : List Int → Option Int) (i : Nat) : St := match G, S with
  | [], [] => swT00 n l m lm r f h [] [] M i
  | [], a :: t => swT01 n l m lm r f h [] (a :: t) M i
  | b :: u, [] => swT10 n l m lm r f h (b :: u) [] M i
  | b :: u, a :: t => swT11 n l m lm r f h (b :: u) (a :: t) M i
noncomputable def swW (n l m lm : Nat) (r : Bool) (f h : Nat → Nat → AV) (G S : List Ent) (M : List Int → Option Int) : St := match G, S with
  | [], [] => swX00 n l m lm r f h [] [] M
  | [], a :: t => swX01 n l m lm r f h [] (a :: t) M
  | b :: u, [] => swX10 n l m lm r f h (b :: u) [] M
  | b :: u, a :: t => swX11 n l m lm r f h (b :: u) (a :: t) M
noncomputable def snU (n l m lm : Nat) (r : Bool) (f h : Nat → Nat → AV) (M : List Int → Option Int) : St := ⟨[.ptr 1 0 0, .nils, .top, .top, .top, .nils, .nils, .top, .top, .top, .top, .top, .top, .top, .ss 6 2 0 n none, .sym .i64 (Int.ofNat n), .int .i64 0] ++ List.replicate 35 .top, ⟨[(1, .cells 2 [.ss 6 2 0 n none, .map 3]), (2, .arr 6 eSh false l f), (3, .map 119 M)], 4, gnm 0, [], [], [], false⟩⟩
noncomputable def snT00 (n l m lm : Nat) (r : Bool) (f h : Nat → Nat → AV) (G S : List Ent) (M : List Int → Option Int) (i : Nat) : St := ⟨[.ptr 1 0 0, .nils, .top, .top, .top, .nils, .nils, .top, .top, .top, .top, .top, .top, .top, .ss 6 2 0 n none, .sym .i64 (Int.ofNat n), .sym .i64 (Int.ofNat i)] ++ List.replicate 35 .top, ⟨[(1, .cells 2 [.ss 6 2 0 n none, .map 3]), (2, .arr 6 eSh false l f), (3, .map 119 M)], 7, gnm 0, [], [], [], false⟩⟩
noncomputable def snX00 (n l m lm : Nat) (r : Bool) (f h : Nat → Nat → AV) (G S : List Ent) (M : List Int → Option Int) : St := ⟨[.ptr 1 0 0, .top, .top, .top, .top, .nils, .nils] ++ List.replicate 45 .top, ⟨[(1, .cells 2 [.ss 6 2 0 n none, .map 3]), (2, .arr 6 eSh false l f), (3, .map 119 M)], 7, gnm 0, [], [], [], false⟩⟩
noncomputable def snT01 (n l m lm : Nat) (r : Bool) (f h : Nat → Nat → AV) (G S : List Ent) (M : List Int → Option Int) (i : Nat) : St := ⟨[.ptr 1 0 0, .nils, .top, .top, .top, .nils, .ss 6 6 0 S.length none, .top, .top, .top, .top, .top, .top, .top, .ss 6 2 0 n none, .sym .i64 (Int.ofNat n), .sym .i64 (Int.ofNat i)] ++ List.replicate 35 .top, ⟨[(1, .cells 2 [.ss 6 2 0 n none, .map 3]), (2, .arr 6 eSh false l f), (3, .map 119 M), (6, .arr 6 eSh false S.length (entF (entAt S)))], 7, gnm 0, [], [], [], false⟩⟩
noncomputable def snX01 (n l m lm : Nat) (r : Bool) (f h : Nat → Nat → AV) (G S : List Ent) (M : List Int → Option Int) : St := ⟨[.ptr 1 0 0, .top, .top, .top, .top, .nils, .ss 6 6 0 S.length none] ++ List.replicate 45 .top, ⟨[(1, .cells 2 [.ss 6 2 0 n none, .map 3]), (2, .arr 6 eSh false l f), (3, .map 119 M), (6, .arr 6 eSh false S.length (entF (entAt S)))], 7, gnm 0, [], [], [], false⟩⟩
noncomputable def snQ (n l m lm : Nat) (r : Bool) (f h : Nat → Nat → AV) (G S : List Ent) (M : List Int → Option Int) (i : Nat) : St := match G, S with
  | [], [] => snT00 n l m lm r f h [] [] M i
  | [], a :: t => snT01 n l m lm r f h [] (a :: t) M i
  | _, _ => snT00 n l m lm r f h [] [] M i
noncomputable def snW (n l m lm : Nat) (r : Bool) (f h : Nat → Nat → AV) (G S : List Ent) (M : List Int → Option Int) : St := match G, S with
  | [], [] => snX00 n l m lm r f h [] [] M
  | [], a :: t => snX01 n l m lm r f h [] (a :: t) M
  | _, _ => snX00 n l m lm r f h [] [] M
noncomputable abbrev swL : Code := loopAt Try.prog 15 0
/-- The loop's end, by the lists as they are then. -/
noncomputable def swLP (n l m lm : Nat) (r : Bool) (f h : Nat → Nat → AV) (M : List Int → Option Int) (G S : List Ent) (M2 : List Int → Option Int) : Prop := LoopHolds Try.prog swL (swU n l m lm r f h M) (.exit 0) (swW n l m lm r f h G S M2)
def bSh : List CK := [.bool]
noncomputable def swLP11 (n l m lm : Nat) (r : Bool) (f h : Nat → Nat → AV) (M : List Int → Option Int) (G S : List Ent) (M2 : List Int → Option Int) : Prop := LoopHolds Try.prog swL (swU n l m lm r f h M) (.exit 0) (swX11 n l m lm r f h G S M2)
noncomputable def swLP10 (n l m lm : Nat) (r : Bool) (f h : Nat → Nat → AV) (M : List Int → Option Int) (G S : List Ent) (M2 : List Int → Option Int) : Prop := LoopHolds Try.prog swL (swU n l m lm r f h M) (.exit 0) (swX10 n l m lm r f h G S M2)
noncomputable def swLP01 (n l m lm : Nat) (r : Bool) (f h : Nat → Nat → AV) (M : List Int → Option Int) (G S : List Ent) (M2 : List Int → Option Int) : Prop := LoopHolds Try.prog swL (swU n l m lm r f h M) (.exit 0) (swX01 n l m lm r f h G S M2)
noncomputable def snLP01 (n l m lm : Nat) (r : Bool) (f h : Nat → Nat → AV) (M : List Int → Option Int) (S : List Ent) : Prop := LoopHolds Try.prog swL (snU n l m lm r f h M) (.exit 0) (snX01 n l m lm r f h [] S M)
noncomputable def snLP (n l m lm : Nat) (r : Bool) (f h : Nat → Nat → AV) (M : List Int → Option Int) (S : List Ent) : Prop := LoopHolds Try.prog swL (snU n l m lm r f h M) (.exit 0) (snW n l m lm r f h [] S M)
theorem swG_t {E : Nat → Ent} {p : Nat → Bool} {i : Nat} (h : p i = true) : swG E p (i + 1) = swG E p i ++ [E i] := by simp only [swG, h, if_true]
theorem swG_f {E : Nat → Ent} {p : Nat → Bool} {i : Nat} (h : p i = false) : swG E p (i + 1) = swG E p i := by simp [swG, h]
theorem swS_f {E : Nat → Ent} {p : Nat → Bool} {i : Nat} (h : p i = false) : swS E p (i + 1) = swS E p i ++ [E i] := by simp [swS, h]
theorem swS_t {E : Nat → Ent} {p : Nat → Bool} {i : Nat} (h : p i = true) : swS E p (i + 1) = swS E p i := by simp [swS, h]
theorem swM_t {M : List Int → Option Int} {E : Nat → Ent} {p : Nat → Bool} {i : Nat} (h : p i = true) : swM M E p (i + 1) = setKey (swM M E p i) (eKey (E i)) none := by simp [swM, h]
theorem swM_f {M : List Int → Option Int} {E : Nat → Ent} {p : Nat → Bool} {i : Nat} (h : p i = false) : swM M E p (i + 1) = swM M E p i := by simp [swM, h]
end Go.Proofs.Ytmlfmmnnbdlabaa
