/-
  RetiresOnce: definitions.
-/
import Derived.Test.YtnecknppajbcdaaRBorn2
set_option linter.unusedSimpArgs false
set_option linter.unusedVariables false
namespace Go.Proofs.Ytnecknppajbcdaa
open Go.Ev

/-! ### lists of entries as such -/
structure LS where
  n : Nat
  E : Nat → Ent
  M : List Int → Option Int
def ent0 : Ent := ⟨0, 0, false, 0, 0, 0⟩
def lsAdd (s : LS) (e : Ent) : LS := ⟨addN s.n s.M e, addF s.n s.E e, addM s.M e⟩
def lsN (A : Nat → Ent) : Nat → LS
  | 0 => ⟨0, fun _ => ent0, fun _ => none⟩
  | i + 1 => lsAdd (lsN A i) (A i)

inductive I2 where
  | a (i : Nat)
  | b (i : Nat)
theorem addN_t {n : Nat} {M : List Int → Option Int} {e : Ent} (h : (addE M e == 0) = true) : addN n M e = n + 1 := by
  have : addE M e = 0 := by simpa using h
  simp [addN, this]
theorem addN_f {n : Nat} {M : List Int → Option Int} {e : Ent} (h : (addE M e == 0) = false) : addN n M e = n := by
  have : addE M e ≠ 0 := by simpa using h
  unfold addN
  split
  · rename_i h0; exact (this h0).elim
  · rfl
theorem addM_f {M : List Int → Option Int} {e : Ent} (h : (addE M e == 0) = false) : addM M e = M := by
  have : addE M e ≠ 0 := by simpa using h
  unfold addM
  split
  · rename_i h0; exact (this h0).elim
  · rfl
theorem addM_t {M : List Int → Option Int} {e : Ent} (h : (addE M e == 0) = true) : addM M e = setKey M (eKey e) (some 1) := by
  have : addE M e = 0 := by simpa using h
  simp [addM, this]
theorem addN_ge (n : Nat) (M : List Int → Option Int) (e : Ent) : n ≤ addN n M e := by
  cases h : (addE M e == 0) with
  | true => rw [addN_t h]; omega
  | false => rw [addN_f h]; omega
theorem addN_le (n : Nat) (M : List Int → Option Int) (e : Ent) : addN n M e ≤ n + 1 := by
  cases h : (addE M e == 0) with
  | true => rw [addN_t h]; omega
  | false => rw [addN_f h]; omega
theorem lsN_le (A : Nat → Ent) : ∀ i, (lsN A i).n ≤ i
  | 0 => Nat.le_refl _
  | i + 1 => by have := lsN_le A i; have := addN_le (lsN A i).n (lsN A i).M (A i); show addN _ _ _ ≤ _; omega
theorem lsN_mono (A : Nat → Ent) {i : Nat} : ∀ {k : Nat}, i ≤ k → (lsN A i).n ≤ (lsN A k).n
  | 0, h => by have : i = 0 := by omega
               rw [this]; exact Nat.le_refl _
  | k + 1, h => by
    by_cases e : i = k + 1
    · rw [e]; exact Nat.le_refl _
    · exact Nat.le_trans (lsN_mono A (k := k) (by omega)) (addN_ge _ _ _)
theorem lsN_zero (A : Nat → Ent) : ∀ i, (lsN A i).n = 0 → (lsN A i).M = fun _ => none
  | 0, _ => rfl
  | i + 1, h => by
    have h' : addN (lsN A i).n (lsN A i).M (A i) = 0 := h
    have := addN_ge (lsN A i).n (lsN A i).M (A i)
    have ih := lsN_zero A i (by omega)
    show addM (lsN A i).M (A i) = _
    cases hc : (addE (lsN A i).M (A i) == 0) with
    | true => rw [addN_t hc] at h'; omega
    | false => rw [addM_f hc, ih]
theorem lsN_one (A : Nat → Ent) (i : Nat) (h : (lsN A i).n = 0) (hc : addE (fun _ => none) (A i) = 0) : (lsN A (i + 1)).M = setKey (fun _ => none) (eKey (A i)) (some 1) := by
  show addM (lsN A i).M (A i) = _
  rw [lsN_zero A i h]
  exact addM_t (by rw [hc]; rfl)
theorem wrap_add {n : Nat} {M : List Int → Option Int} {e : Ent} (h : (addE M e == 0) = true) (hn : n ≤ 1000000) : IntKind.i64.wrap (Int.ofNat n + 1) = Int.ofNat (addN n M e) := by
  rw [addN_t h]; exact wrap_nat64 _ (by simp; omega) (by simp; omega)
theorem wrap_no {n : Nat} {M : List Int → Option Int} {e : Ent} (h : (addE M e == 0) = false) : Int.ofNat n = Int.ofNat (addN n M e) := by rw [addN_f h]

/-! ### what lives() answers -/
noncomputable def E0 : Env := envOf Try.prog []
theorem lives_run : (callF E0 3000 11 [] ⟨[], 0, gnm 0, [], [], [], true⟩).map (fun x => (x.1, x.2.ob)) = some (.bool true, []) := by kernel_rfl
noncomputable def livesR : LR := ⟨0, .bool true, [], 0, [], []⟩
theorem lives_loc : LocOk Try.prog 11 [] [] livesR := by
  intro ρ w hob hr hf hg xs hx
  cases hc : callF E0 3000 11 [] ⟨[], 0, gnm 0, [], [], [], true⟩ with
  | none => have := lives_run; rw [hc] at this; cases this
  | some y =>
    have := lives_run
    rw [hc] at this
    simp only [Option.map_some, Option.some.injEq, Prod.mk.injEq] at this
    obtain ⟨v, h1⟩ := y
    obtain ⟨rfl, h2⟩ := this
    exact (closed_ok EA_ok hc h2 rfl ⟨[], 1, gnm 0, [], [], [], false⟩).wp (fun p hp => by cases hp) ρ w hr hf hg xs hx
noncomputable def livesSpec : LSpec := fun la lh => match la, lh with
  | [], [] => some livesR
  | _, _ => none
theorem livesSpec_ok (la : List AV) (lh : List (Nat × AO)) (R : LR) (h : livesSpec la lh = some R) : LocOk Try.prog 11 la lh R := by
  unfold livesSpec at h
  split at h
  · cases h; exact lives_loc
  · cases h

noncomputable def EB : Env := envOf Try.prog [(11, livesSpec), (13, nrm addSpec), (15, nrm bpSpec), (17, nrm sameSpec)]
theorem EB_ok : EnvOk EB := envOf_ok good ⟨livesSpec_ok, nrm_ok addSpec_ok, nrm_ok bpSpec_ok, nrm_ok sameSpec_ok, trivial⟩

section
variable (m : Nat) (f : Nat → Nat → AV) (a b : Int)
def inE (i : Nat) : Ent := entOf (f (0 + i))
theorem o1_row {f : Nat → Nat → AV} {ii : Nat} (h : (lsN (inE f) ii).n = 0) (h1 : (lsN (inE f) (ii + 1)).n = 1) : ∀ k, k < (lsN (inE f) (ii + 1)).n →
    rowOb eSh 0 (listRow 6 ([] ++ entL (inE f ii)) k) (entF (lsN (inE f) (ii + 1)).E k) := fun k hk => by
  obtain rfl : k = 0 := by omega
  have e : (lsN (inE f) (ii + 1)).E 0 = inE f ii := by
    show addF (lsN (inE f) ii).n _ _ 0 = _
    simp [addF, h]
  have : entF (lsN (inE f) (ii + 1)).E 0 = entR (inE f ii) := by funext j; show entR _ j = _; rw [e]
  rw [this]
  exact ⟨rfl, rfl, rfl, rfl, rfl, rfl, trivial⟩
noncomputable def o1Hd : List AV := [.ss 6 1 0 m none, .sym .u64 a, .sym .u64 b, .top, .top, .top, .bool false, .ptr 2 0 0]
noncomputable def o1U : St := ⟨o1Hd m a b ++ [.int .i64 0, .int .i64 0] ++ List.replicate 109 .top, ⟨[(2, .cells 2 [.nils, .nilm]), (1, .arr 6 eSh true m f)], 3, gnm 0, [], [], [], false⟩⟩
noncomputable def o1A (i : Nat) : St := ⟨o1Hd m a b ++ [.int .i64 0, .sym .i64 (Int.ofNat i)] ++ List.replicate 109 .top, ⟨[(2, .cells 2 [.nils, .nilm]), (1, .arr 6 eSh true m f)], 3, gnm 0, [], [], [], false⟩⟩
noncomputable def o1HB (n : Nat) (E : Nat → Ent) (M : List Int → Option Int) : List (Nat × AO) := [(2, .cells 2 [.ss 6 3 0 n none, .map 4]), (3, .arr 6 eSh false n (entF E)), (4, .map 48 M), (1, .arr 6 eSh true m f)]
noncomputable def o1B (n : Nat) (E : Nat → Ent) (M : List Int → Option Int) (i : Nat) : St := ⟨o1Hd m a b ++ [.sym .i64 (Int.ofNat n), .sym .i64 (Int.ofNat i)] ++ List.replicate 109 .top, ⟨o1HB m f n E M, 5, gnm 0, [], [], [2], false⟩⟩
noncomputable def o1SA : St := ⟨o1Hd m a b ++ [.int .i64 0] ++ List.replicate 110 .top, ⟨[(2, .cells 2 [.nils, .nilm]), (1, .arr 6 eSh true m f)], 3, gnm 0, [], [], [], false⟩⟩
noncomputable def o1SB (n : Nat) (E : Nat → Ent) (M : List Int → Option Int) : St := ⟨o1Hd m a b ++ [.sym .i64 (Int.ofNat n)] ++ List.replicate 110 .top, ⟨o1HB m f n E M, 5, gnm 0, [], [], [2], false⟩⟩
noncomputable abbrev lcO1 := loopAt Try.prog 3 0
end
end Go.Proofs.Ytnecknppajbcdaa
