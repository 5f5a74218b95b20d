/-
  Retires: contracts of Sweep and All: definitions.
-/
import Derived.Test.YtmlfmmnnbdlabaaNrSw
set_option linter.unusedSimpArgs false
set_option linter.unusedVariables false
namespace Go.Proofs.Ytmlfmmnnbdlabaa
open Go.Ev

noncomputable def sc11H (n : Nat) (l : Nat) (m : Nat) (lm : Nat) (r : Bool) (f : Nat → Nat → AV) (h : Nat → Nat → AV) (M : List Int → Option Int) : List (Nat × AO) := [(1, .cells 2 [.ss 6 2 0 n none, .map 3]), (2, .arr 6 eSh false l f), (3, .map 119 M), (4, .arr 1 [.bool] r lm h)]
noncomputable def sc11R (n : Nat) (l : Nat) (m : Nat) (lm : Nat) (r : Bool) (f : Nat → Nat → AV) (h : Nat → Nat → AV) (M : List Int → Option Int) : LR := ⟨4, .ss 6 5 0 (swG (fun i => entOf (f (0 + i))) (swP m h) n).length (some (swG (fun i => entOf (f (0 + i))) (swP m h) n).length), [(1, .cells 2 [.ss 6 6 0 (swS (fun i => entOf (f (0 + i))) (swP m h) n).length none, .map 3]), (2, .arr 6 eSh false l f), (3, .map 119 (swM M (fun i => entOf (f (0 + i))) (swP m h) n)), (4, .arr 1 [.bool] r lm h), (5, .arr 6 eSh false (swG (fun i => entOf (f (0 + i))) (swP m h) n).length (entF (entAt (swG (fun i => entOf (f (0 + i))) (swP m h) n)))), (6, .arr 6 eSh false (swS (fun i => entOf (f (0 + i))) (swP m h) n).length (entF (entAt (swS (fun i => entOf (f (0 + i))) (swP m h) n))))], 2, [1, 3], [n ≤ l, n ≤ 1000000, m ≤ lm, m ≤ 1000000, (swG (fun i => entOf (f (0 + i))) (swP m h) n) ≠ [], (swS (fun i => entOf (f (0 + i))) (swP m h) n) ≠ []]⟩
noncomputable def sc10H (n : Nat) (l : Nat) (m : Nat) (lm : Nat) (r : Bool) (f : Nat → Nat → AV) (h : Nat → Nat → AV) (M : List Int → Option Int) : List (Nat × AO) := [(1, .cells 2 [.ss 6 2 0 n none, .map 3]), (2, .arr 6 eSh false l f), (3, .map 119 M), (4, .arr 1 [.bool] r lm h)]
noncomputable def sc10R (n : Nat) (l : Nat) (m : Nat) (lm : Nat) (r : Bool) (f : Nat → Nat → AV) (h : Nat → Nat → AV) (M : List Int → Option Int) : LR := ⟨4, .ss 6 5 0 (swG (fun i => entOf (f (0 + i))) (swP m h) n).length (some (swG (fun i => entOf (f (0 + i))) (swP m h) n).length), [(1, .cells 2 [.nils, .map 3]), (2, .arr 6 eSh false l f), (3, .map 119 (swM M (fun i => entOf (f (0 + i))) (swP m h) n)), (4, .arr 1 [.bool] r lm h), (5, .arr 6 eSh false (swG (fun i => entOf (f (0 + i))) (swP m h) n).length (entF (entAt (swG (fun i => entOf (f (0 + i))) (swP m h) n))))], 2, [1, 3], [n ≤ l, n ≤ 1000000, m ≤ lm, m ≤ 1000000, (swG (fun i => entOf (f (0 + i))) (swP m h) n) ≠ [], (swS (fun i => entOf (f (0 + i))) (swP m h) n) = []]⟩
noncomputable def sc01H (n : Nat) (l : Nat) (m : Nat) (lm : Nat) (r : Bool) (f : Nat → Nat → AV) (h : Nat → Nat → AV) (M : List Int → Option Int) : List (Nat × AO) := [(1, .cells 2 [.ss 6 2 0 n none, .map 3]), (2, .arr 6 eSh false l f), (3, .map 119 M), (4, .arr 1 [.bool] r lm h)]
noncomputable def sc01R (n : Nat) (l : Nat) (m : Nat) (lm : Nat) (r : Bool) (f : Nat → Nat → AV) (h : Nat → Nat → AV) (M : List Int → Option Int) : LR := ⟨4, .nils, [(1, .cells 2 [.ss 6 6 0 (swS (fun i => entOf (f (0 + i))) (swP m h) n).length none, .map 3]), (2, .arr 6 eSh false l f), (3, .map 119 (swM M (fun i => entOf (f (0 + i))) (swP m h) n)), (4, .arr 1 [.bool] r lm h), (6, .arr 6 eSh false (swS (fun i => entOf (f (0 + i))) (swP m h) n).length (entF (entAt (swS (fun i => entOf (f (0 + i))) (swP m h) n))))], 2, [1, 3], [n ≤ l, n ≤ 1000000, m ≤ lm, m ≤ 1000000, (swG (fun i => entOf (f (0 + i))) (swP m h) n) = [], (swS (fun i => entOf (f (0 + i))) (swP m h) n) ≠ []]⟩
theorem beq0 {n : Nat} (h : 0 < n) : Nat.beq n 0 = false := by
  cases n with
  | zero => omega
  | succ n => rfl
theorem swS_all (E : Nat → Ent) : ∀ n, (swS E (fun _ => false) n).length = n
  | 0 => rfl
  | n + 1 => by rw [swS_f rfl]; simp [swS_all E n]
theorem swS_at (E : Nat → Ent) : ∀ n i, i < n → entAt (swS E (fun _ => false) n) i = E i
  | n + 1, i, h => by
    have hl := swS_all E n
    rw [swS_f rfl, entAt_app]
    by_cases c : i < n
    · simp only [hl, c, if_true]; exact swS_at E n i c
    · have : i = n := by omega
      subst this; simp [hl]
theorem stay_rows (f : Nat → Nat → AV) {n : Nat} : ∀ i, i < n → rowOb eSh 0 (entF (entAt (swS (fun i => entOf (f (0 + i))) (fun _ => false) n)) i) (entF (fun i => entOf (f (0 + i))) i) := fun i hi => by
  unfold entF
  rw [swS_at _ n i hi]
  exact row_ent rfl
noncomputable def sncH (n : Nat) (l : Nat) (f : Nat → Nat → AV) (M : List Int → Option Int) : List (Nat × AO) := [(1, .cells 2 [.ss 6 2 0 n none, .map 3]), (2, .arr 6 eSh false l f), (3, .map 119 M)]
noncomputable def sncR (n : Nat) (l : Nat) (f : Nat → Nat → AV) (M : List Int → Option Int) : LR := ⟨3, .nils, [(1, .cells 2 [.ss 6 4 0 n none, .map 3]), (2, .arr 6 eSh false l f), (3, .map 119 M), (4, .arr 6 eSh false n (entF (fun i => entOf (f (0 + i)))))], 1, [1], [n ≤ l, n ≤ 1000000, 0 < n]⟩
noncomputable def alcH (n : Nat) (l : Nat) (f : Nat → Nat → AV) (M : List Int → Option Int) : List (Nat × AO) := [(1, .cells 2 [.ss 6 2 0 n none, .map 3]), (2, .arr 6 eSh false l f), (3, .map 119 M)]
noncomputable def alcR (n : Nat) (l : Nat) (f : Nat → Nat → AV) (M : List Int → Option Int) : LR := ⟨3, .ss 6 4 0 n (some n), [(1, .cells 2 [.ss 6 2 0 n none, .map 3]), (2, .arr 6 eSh false l f), (3, .map 119 M), (4, .arr 6 eSh false n f)], 1, [], [n ≤ l, n ≤ 1000000, 0 < n]⟩
end Go.Proofs.Ytmlfmmnnbdlabaa
