/-
  Moves of the epoch: what they do.
-/
import Derived.Test.YtmhjecenmgbpeaaMEf
set_option linter.unusedSimpArgs false
set_option linter.unusedVariables false
namespace Go.Proofs.Ytmhjecenmgbpeaa
open Go.Ev

theorem wrap16 {j : Nat} (h : j ≤ 16) : IntKind.i64.wrap (Int.ofNat j + 1) = Int.ofNat (j + 1) := by rw [i64w (by simp; omega) (by simp; omega)]; rfl
/-- The looks: from the third step on, as long as none is bad. -/
theorem runA_look (m : MS) (k : Nat) (hk : k ≤ 16) (hB : mget m.M (key 5 0 0) = 4) (hb : ∀ t : Nat, t < k → badT m.M (mget m.M (key 1 0 0)) t = false) :
    ∀ j, j ≤ k → (runA (av0 m) (j + 2)).a = ⟨if j = 16 then 4 else 3, mget m.M (key 1 0 0), Int.ofNat j, 16, false⟩ ∧ (runA (av0 m) (j + 2)).m.M = m.M
  | 0, _ => by
    have e : allE m.M = 16 := by unfold allE; rw [hB]; rfl
    have e2 : allE (mLoad m 1 0 0).M = 16 := e
    simp [runA, stepA, av0, mLoad, e2]
    have e3 : allE m.M = 16 := e
    simp [mLoad] at e2
    rw [e2]; simp
  | j + 1, hj => by
    obtain ⟨h1, h2⟩ := runA_look m k hk hB hb j (by omega)
    have e : runA (av0 m) (j + 1 + 2) = stepA (runA (av0 m) (j + 2)) := rfl
    rw [e]
    have hj16 : ¬ j = 16 := by omega
    have hbad := hb j (by omega)
    have hw := wrap16 (j := j) (by omega)
    unfold stepA
    rw [h1, if_neg hj16]
    have hbad' : badT (runA (av0 m) (j + 2)).m.M (mget m.M (key 1 0 0)) (Int.ofNat j) = false := by rw [h2]; exact hbad
    simp only [hbad', hw]
    refine ⟨?_, by simp [mLoad, h2]⟩
    simp only [show ((3 : Int) = 1) = False by decide, show ((3 : Int) = 2) = False by decide, if_false, if_true]
    congr 1
    by_cases q : j + 1 = 16
    · rw [if_pos q, if_pos (by simp; omega)]
    · rw [if_neg q, if_neg (by simp; omega)]

theorem runA_at (m : MS) (k : Nat) (hk : k ≤ 16) (hB : mget m.M (key 5 0 0) = 4) (hb : ∀ t : Nat, t < k → badT m.M (mget m.M (key 1 0 0)) t = false) :
    ∀ i, i < k + 3 → (runA (av0 m) i).a.at_ ≠ 0 := by
  intro i hi
  match i with
  | 0 => simp [runA, av0]
  | 1 => simp [runA, av0, stepA]
  | j + 2 =>
    rw [(runA_look m k hk hB hb j (by omega)).1]
    show (if j = 16 then (4 : Int) else 3) ≠ 0
    split <;> decide

/-- None is bad: it moves, in 19 steps. -/
theorem mv_free (m : MS) (hB : mget m.M (key 5 0 0) = 4) (hb : ∀ t : Nat, t < 16 → badT m.M (mget m.M (key 1 0 0)) t = false) :
    mvN m = 19 ∧ (runA (av0 m) 19).a.mv = true ∧ (runA (av0 m) 19).m.M = setKey m.M (key 1 0 0) (some (IntKind.u64.wrap (mget m.M (key 1 0 0) + 1))) := by
  have h18 := runA_look m 16 (Nat.le_refl _) hB hb 16 (Nat.le_refl _)
  have e19 : runA (av0 m) 19 = stepA (runA (av0 m) (16 + 2)) := rfl
  obtain ⟨h1, h2⟩ := h18
  rw [if_pos rfl] at h1
  have hd : casD m.M 1 0 0 (mget m.M (key 1 0 0)) = true := by simp [casD, mayA, kAt, kFl]
  have key19 : (runA (av0 m) 19).a = ⟨0, mget m.M (key 1 0 0), 16, 16, true⟩ ∧ (runA (av0 m) 19).m.M = setKey m.M (key 1 0 0) (some (IntKind.u64.wrap (mget m.M (key 1 0 0) + 1))) := by
    rw [e19]
    unfold stepA
    rw [h1]
    simp only [show ((4 : Int) = 1) = False by decide, show ((4 : Int) = 2) = False by decide, show ((4 : Int) = 3) = False by decide, if_false, if_true, h2, hd]
    exact ⟨rfl, by simp [mCas, casM, h2, hd]⟩
  refine ⟨?_, by rw [key19.1], key19.2⟩
  unfold mvN
  exact fnd_eq (by decide) (by simp [key19.1]) (fun i hi => by simpa using runA_at m 16 (Nat.le_refl _) hB hb i hi)

/-- The first bad one stops it: nothing moves. -/
theorem mv_bad (m : MS) (k : Nat) (hk : k < 16) (hB : mget m.M (key 5 0 0) = 4) (hb : ∀ t : Nat, t < k → badT m.M (mget m.M (key 1 0 0)) t = false) (hk2 : badT m.M (mget m.M (key 1 0 0)) k = true) :
    mvN m = k + 3 ∧ (runA (av0 m) (k + 3)).a.mv = false ∧ (runA (av0 m) (k + 3)).m.M = m.M := by
  obtain ⟨h1, h2⟩ := runA_look m k (by omega) hB hb k (Nat.le_refl _)
  rw [if_neg (by omega)] at h1
  have e3 : runA (av0 m) (k + 3) = stepA (runA (av0 m) (k + 2)) := rfl
  have hbad' : badT (runA (av0 m) (k + 2)).m.M (mget m.M (key 1 0 0)) (Int.ofNat k) = true := by rw [h2]; exact hk2
  have k3 : (runA (av0 m) (k + 3)).a.at_ = 0 ∧ (runA (av0 m) (k + 3)).a.mv = false ∧ (runA (av0 m) (k + 3)).m.M = m.M := by
    rw [e3]
    unfold stepA
    rw [h1]
    simp only [show ((3 : Int) = 1) = False by decide, show ((3 : Int) = 2) = False by decide, if_false, if_true, hbad']
    simp [mLoad, h2]
  refine ⟨?_, k3.2.1, k3.2.2⟩
  unfold mvN
  exact fnd_eq (by omega) (by simp [k3.1]) (fun i hi => by simpa using runA_at m k (by omega) hB hb i hi)

/-- How many are not bad ahead of the first that is; 16: none is. -/
def frN (M : List Int → Option Int) : Nat := fnd (fun t => badT M (mget M (key 1 0 0)) t) 16
def okM (M : List Int → Option Int) : Bool := Nat.beq (frN M) 16
def nxM (M : List Int → Option Int) : List Int → Option Int := match okM M with
  | true => setKey M (key 1 0 0) (some (IntKind.u64.wrap (mget M (key 1 0 0) + 1)))
  | false => M
noncomputable def nextM (m : MS) : MS := ⟨nxM m.M, (runA (av0 m) (frN m.M + 3)).m.st, (runA (av0 m) (frN m.M + 3)).m.L⟩
noncomputable def mvdR (m : MS) : LR := ⟨2, .tup [.symb (okM m.M), .sym .i64 (Int.ofNat (frN m.M + 3))], msH (nextM m), 0, [1, 2], [mget m.M (key 5 0 0) = 4]⟩
theorem mv_all (m : MS) (hB : mget m.M (key 5 0 0) = 4) : mvN m = frN m.M + 3 ∧ (runA (av0 m) (frN m.M + 3)).a.mv = okM m.M ∧ (runA (av0 m) (frN m.M + 3)).m.M = nxM m.M := by
  rcases first_true (fun t => badT m.M (mget m.M (key 1 0 0)) (t : Nat)) 16 with qno | ⟨k, hk, qk2, qk3⟩
  · have e : frN m.M = 16 := fnd_none qno
    obtain ⟨h1, h2, h3⟩ := mv_free m hB qno
    have ho : okM m.M = true := by unfold okM; rw [e]; rfl
    rw [e]
    refine ⟨h1, by rw [h2, ho], ?_⟩
    rw [h3]; unfold nxM; rw [ho]
  · have e : frN m.M = k := fnd_eq hk qk2 qk3
    obtain ⟨h1, h2, h3⟩ := mv_bad m k hk hB qk3 qk2
    have ho : okM m.M = false := by unfold okM; rw [e]; cases hb : Nat.beq k 16 with
      | false => rfl
      | true => exact absurd (Nat.eq_of_beq_eq_true hb) (by omega)
    rw [e]
    refine ⟨h1, by rw [h2, ho], ?_⟩
    rw [h3]; unfold nxM; rw [ho]
theorem frN_le (M : List Int → Option Int) : frN M ≤ 16 := by
  unfold frN
  rcases first_true (fun t => badT M (mget M (key 1 0 0)) (t : Nat)) 16 with qno | ⟨k, hk, qk2, qk3⟩
  · rw [fnd_none qno]; exact Nat.le_refl _
  · rw [fnd_eq hk qk2 qk3]; omega
theorem mvd_loc (m : MS) : LocOk Try.prog 19 [.ptr 1 0 0] (msH m) (mvdR m) := by
  intro ρ w hob hr hf hg xs hx
  have hB := hob _ (List.mem_cons_self ..)
  obtain ⟨e1, e2, e3⟩ := mv_all m hB
  have h0 := mv_loc m
  have e : mvR m (mvN m) = { mvdR m with ob := [mvN m < 100] } := by
    unfold mvR mvdR msH nextM
    rw [e1, e2]
    simp only [e3]
  rw [e] at h0
  have hl := frN_le m.M
  exact h0 ρ w (by intro p hp; simp only [List.mem_singleton] at hp; subst hp; rw [e1]; omega) hr hf hg xs hx
theorem nextM_M (m : MS) : (nextM m).M = nxM m.M := by simp only [nextM]
attribute [irreducible] frN okM nxM nextM
noncomputable def nL (M : List Int → Option Int) (st c k a f w i : Int) (d : Bool) : MS := nextM ⟨M, st, ⟨c, k, a, f, w, i, d⟩⟩
theorem nL_M (M : List Int → Option Int) (st c k a f w i : Int) (d : Bool) : (nL M st c k a f w i d).M = nxM M := by unfold nL; exact nextM_M _
noncomputable def mvdS (M : List Int → Option Int) (st c k a f w i : Int) (d : Bool) : LR := ⟨2, .tup [.symb (okM M), .sym .i64 (Int.ofNat (frN M + 3))], [(1, .cells 9 [.map 2, .sym .i64 (nL M st c k a f w i d).st, .sym .u8 (nL M st c k a f w i d).L.c, .sym .u8 (nL M st c k a f w i d).L.k, .sym .i64 (nL M st c k a f w i d).L.a, .sym .i64 (nL M st c k a f w i d).L.f, .sym .u64 (nL M st c k a f w i d).L.w, .sym .u64 (nL M st c k a f w i d).L.i, .symb (nL M st c k a f w i d).L.d]), (2, .map 110 (nxM M))], 0, [1, 2], [mget M (key 5 0 0) = 4]⟩
theorem mvds_loc (M : List Int → Option Int) (st c k a f w i : Int) (d : Bool) : LocOk Try.prog 19 [.ptr 1 0 0] [(1, .cells 9 [.map 2, .sym .i64 st, .sym .u8 c, .sym .u8 k, .sym .i64 a, .sym .i64 f, .sym .u64 w, .sym .u64 i, .symb d]), (2, .map 110 M)] (mvdS M st c k a f w i d) := by
  have h := mvd_loc ⟨M, st, ⟨c, k, a, f, w, i, d⟩⟩
  unfold mvdR msH at h
  rw [nextM_M] at h
  unfold mvdS nL
  exact h
noncomputable def mvdSpec : LSpec := fun la lh => match la, lh with
  | [.ptr z1 z2 z3], [(z4, .cells z5 [.map z6, .sym .i64 st, .sym .u8 c, .sym .u8 k, .sym .i64 a, .sym .i64 f, .sym .u64 w, .sym .u64 i, .symb d]), (z7, .map z8 M)] =>
    match Nat.beq z1 1 && (Nat.beq z2 0 && (Nat.beq z3 0 && (Nat.beq z4 1 && (Nat.beq z5 9 && (Nat.beq z6 2 && (Nat.beq z7 2 && (Nat.beq z8 110))))))) with
    | true => some (mvdS M st c k a f w i d)
    | false => none
  | _, _ => none
theorem mvdSpec_ok (la : List AV) (lh : List (Nat × AO)) (R : LR) (h : mvdSpec la lh = some R) : LocOk Try.prog 19 la lh R := by
  unfold mvdSpec at h
  split at h
  · rename_i z1 z2 z3 z4 z5 z6 st c k a f w i d z7 z8 M
    split at h
    · rename_i hb
      simp only [Bool.and_eq_true] at hb
      obtain ⟨e1, e2, e3, e4, e5, e6, e7, e8⟩ := hb
      have e1 := Nat.eq_of_beq_eq_true e1; subst e1
      have e2 := Nat.eq_of_beq_eq_true e2; subst e2
      have e3 := Nat.eq_of_beq_eq_true e3; subst e3
      have e4 := Nat.eq_of_beq_eq_true e4; subst e4
      have e5 := Nat.eq_of_beq_eq_true e5; subst e5
      have e6 := Nat.eq_of_beq_eq_true e6; subst e6
      have e7 := Nat.eq_of_beq_eq_true e7; subst e7
      have e8 := Nat.eq_of_beq_eq_true e8; subst e8
      cases h
      exact mvds_loc M st c k a f w i d
    · cases h
  · cases h
attribute [irreducible] nL
end Go.Proofs.Ytmhjecenmgbpeaa
