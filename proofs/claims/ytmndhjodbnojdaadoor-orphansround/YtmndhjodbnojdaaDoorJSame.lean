/-
  'Same' of two lists of entries.
-/
import Derived.Test.YtmndhjodbnojdaaDoorEvLoc2
import Derived.Test.YtmndhjodbnojdaaDoorRows
set_option linter.unusedSimpArgs false
set_option linter.unusedVariables false
namespace Go.Proofs.YtmndhjodbnojdaaDoor
open Go.Ev

theorem good : Ev.Good Tryd.prog where
  mixed := by kernel_rfl
  names := fun f fn h1 h2 => by
    have key : Tryd.prog.funcs.toList.all (fun fn => !fn.body.isSome || !(fn.name == "runtime.NumGoroutine")) = true := by kernel_rfl
    have hm : fn ∈ Tryd.prog.funcs.toList := by
      have := (Array.getElem?_eq_some_iff.1 h1)
      obtain ⟨hlt, rfl⟩ := this
      simp
    have := List.all_eq_true.1 key fn hm
    simpa [h2] using this

noncomputable def EA : Env := envOf Tryd.prog []
theorem EA_ok : EnvOk EA := envOf_ok good trivial

def eSh : List CK := [.int .i64, .int .u32, .bool, .int .u64, .int .u64, .int .u64]

/-- Are two entries the same? -/
def entB (f g : Nat → AV) : Bool :=
  and2 (and2 (avInt (f 0) == avInt (g 0)) (and2 (avInt (f 1) == avInt (g 1)) (and2 (avBool (f 2) == avBool (g 2)) true)))
    (and2 (avInt (f 3) == avInt (g 3)) (and2 (avInt (f 4) == avInt (g 4)) (and2 (avInt (f 5) == avInt (g 5)) true)))

def sameB (n1 n2 o1 o2 : Nat) (f1 f2 : Nat → Nat → AV) : Bool := Nat.beq n1 n2 && allB (fun i => entB (f1 (o1 + i)) (f2 (o2 + i))) n1

section
variable (n1 n2 o1 o2 l1 l2 : Nat) (c1 c2 : Option Nat) (r1 r2 : Bool) (f1 f2 : Nat → Nat → AV)
noncomputable def sameH : List (Nat × AO) := [(1, .arr 6 eSh r1 l1 f1), (2, .arr 6 eSh r2 l2 f2)]
noncomputable def sameA : List AV := [.ss 6 1 o1 n1 c1, .ss 6 2 o2 n2 c2]
noncomputable def sameR : LR := ⟨2, .symb (sameB n1 n2 o1 o2 f1 f2), sameH l1 l2 r1 r2 f1 f2, 0, [], [o1 + n1 ≤ l1, o2 + n2 ≤ l2, n1 ≤ 1000000]⟩
noncomputable def sameT (b : Bool) (i : Nat) : St := ⟨[.ss 6 1 o1 n1 c1, .ss 6 2 o2 n2 c2, .top, .top, .bool b, .sym .i64 (Int.ofNat i)] ++ List.replicate 20 .top, ⟨sameH l1 l2 r1 r2 f1 f2, 3, gnm 0, [], [], [], false⟩⟩
noncomputable def sameU : St := ⟨[.ss 6 1 o1 n1 c1, .ss 6 2 o2 n2 c2, .top, .top, .bool false, .int .i64 0] ++ List.replicate 20 .top, ⟨sameH l1 l2 r1 r2 f1 f2, 3, gnm 0, [], [], [], false⟩⟩
noncomputable def sameS (b : Bool) : St := ⟨[.top, .top, .top, .top, .bool b, .top] ++ List.replicate 20 .top, ⟨sameH l1 l2 r1 r2 f1 f2, 3, gnm 0, [], [], [], false⟩⟩

noncomputable abbrev lc := loopAt Tryd.prog 43 0

/-- What a round's cast asks where nothing but the counter moves. -/
def sameObs (i : Nat) : List Prop :=
  [o1 = o1, n1 = n1, c1 = c1, o2 = o2, n2 = n2, c2 = c2, IntKind.i64.wrap (Int.ofNat i + 1) = Int.ofNat (i + 1), r1 = r1, l1 ≤ l1, (f1 = f1 ∧ plainSh eSh = true) ∨ ∀ i, i < l1 → rowOb eSh 0 (f1 i) (f1 i), r2 = r2, l2 ≤ l2, (f2 = f2 ∧ plainSh eSh = true) ∨ ∀ i, i < l2 → rowOb eSh 0 (f2 i) (f2 i)]

theorem same_r1 (i : Nat) : roundB EA 2000 lc (sameT n1 n2 o1 o2 l1 l2 c1 c2 r1 r2 f1 f2 false i).hp [] (sameT n1 n2 o1 o2 l1 l2 c1 c2 r1 r2 f1 f2 false i) [.b true, .node [], .b false] (sameT n1 n2 o1 o2 l1 l2 c1 c2 r1 r2 f1 f2 false (i + 1)) =
  some (.norm, sameObs n1 n2 o1 o2 l1 l2 c1 c2 r1 r2 f1 f2 i ++ [(entB (f1 (o1 + i)) (f2 (o2 + i)) == false) = false, Nat.blt (o2 + i) l2 = true, (Nat.blt i n2 && decide (0 ≤ Int.ofNat i)) = true, Nat.blt (o1 + i) l1 = true, (Nat.blt i n1 && decide (0 ≤ Int.ofNat i)) = true, decide (Int.ofNat i < Int.ofNat n1) = true]) := by kernel_rfl
def sameObs2 : List Prop :=
  [r1 = r1, l1 ≤ l1, (f1 = f1 ∧ plainSh eSh = true) ∨ ∀ i, i < l1 → rowOb eSh 0 (f1 i) (f1 i), r2 = r2, l2 ≤ l2, (f2 = f2 ∧ plainSh eSh = true) ∨ ∀ i, i < l2 → rowOb eSh 0 (f2 i) (f2 i)]

theorem same_r2 (i : Nat) : roundB EA 2000 lc (sameT n1 n2 o1 o2 l1 l2 c1 c2 r1 r2 f1 f2 false i).hp [] (sameT n1 n2 o1 o2 l1 l2 c1 c2 r1 r2 f1 f2 false i) [.b true, .node [], .b true] (sameS l1 l2 r1 r2 f1 f2 false) =
  some (.ret, sameObs2 l1 l2 r1 r2 f1 f2 ++ [(entB (f1 (o1 + i)) (f2 (o2 + i)) == false) = true, Nat.blt (o2 + i) l2 = true, (Nat.blt i n2 && decide (0 ≤ Int.ofNat i)) = true, Nat.blt (o1 + i) l1 = true, (Nat.blt i n1 && decide (0 ≤ Int.ofNat i)) = true, decide (Int.ofNat i < Int.ofNat n1) = true]) := by kernel_rfl

theorem same_r3 (i : Nat) : roundB EA 2000 lc (sameT n1 n2 o1 o2 l1 l2 c1 c2 r1 r2 f1 f2 false i).hp [] (sameT n1 n2 o1 o2 l1 l2 c1 c2 r1 r2 f1 f2 false i) [.b false] (sameS l1 l2 r1 r2 f1 f2 false) =
  some (.exit 0, sameObs2 l1 l2 r1 r2 f1 f2 ++ [decide (Int.ofNat i < Int.ofNat n1) = false]) := by kernel_rfl

theorem same_c1 : callB EA 2000 43 (sameA n1 n2 o1 o2 c1 c2) (sameH l1 l2 r1 r2 f1 f2) (sameR n1 n2 o1 o2 l1 l2 r1 r2 f1 f2) [] [.b true] =
  some ([false = sameB n1 n2 o1 o2 f1 f2] ++ sameObs2 l1 l2 r1 r2 f1 f2 ++ [(Int.ofNat n1 != Int.ofNat n2) = true]) := by kernel_rfl
/-- The loop's outcome: it ends (.exit 0), or stops at a row that differs (.ret). -/
noncomputable def sameLp (e : Ex) : Prop := LoopHolds Tryd.prog lc (sameU n1 n2 o1 o2 l1 l2 c1 c2 r1 r2 f1 f2) e (sameS l1 l2 r1 r2 f1 f2 false)

theorem same_c2 (e : Ex) (he : e = .ret ∨ e = .exit 0) : callB EA 2000 43 (sameA n1 n2 o1 o2 c1 c2) (sameH l1 l2 r1 r2 f1 f2) (sameR n1 n2 o1 o2 l1 l2 r1 r2 f1 f2) [] [.b false, .lp [0, 1, 4, 5] e (sameS l1 l2 r1 r2 f1 f2 false).tmps (sameH l1 l2 r1 r2 f1 f2) 3 []] =
  some ([(match e with | .ret => false | _ => true) = sameB n1 n2 o1 o2 f1 f2] ++ sameObs2 l1 l2 r1 r2 f1 f2 ++ [sameLp n1 n2 o1 o2 l1 l2 c1 c2 r1 r2 f1 f2 e, (Int.ofNat n1 != Int.ofNat n2) = false]) := by
  rcases he with rfl | rfl <;> kernel_rfl

theorem same_lp (hb1 : o1 + n1 ≤ l1) (hb2 : o2 + n2 ≤ l2) (hn : n1 = n2) (hlim : n1 ≤ 1000000) (k : Nat) (hk : k ≤ n1) (heq : ∀ i, i < k → entB (f1 (o1 + i)) (f2 (o2 + i)) = true) (e : Ex)
    (he : (k = n1 ∧ e = .exit 0) ∨ (k < n1 ∧ e = .ret ∧ entB (f1 (o1 + k)) (f2 (o2 + k)) = false)) : sameLp n1 n2 o1 o2 l1 l2 c1 c2 r1 r2 f1 f2 e := by
  have ob2 : ∀ p ∈ sameObs2 l1 l2 r1 r2 f1 f2, p := ob_cons rfl (ob_cons (Nat.le_refl _) (ob_cons (.inl ⟨rfl, rfl⟩) (ob_cons rfl (ob_cons (Nat.le_refl _) (ob_cons (.inl ⟨rfl, rfl⟩) ob_nil)))))
  have ix : ∀ i, i < n1 → (Nat.blt i n1 && decide (0 ≤ Int.ofNat i)) = true := fun i hi => by simp [Nat.blt_eq]; omega
  have ix2 : ∀ i, i < n1 → (Nat.blt i n2 && decide (0 ≤ Int.ofNat i)) = true := fun i hi => by simp [Nat.blt_eq]; omega
  have in1 : ∀ i, i < n1 → Nat.blt (o1 + i) l1 = true := fun i hi => by simp [Nat.blt_eq]; omega
  have in2 : ∀ i, i < n1 → Nat.blt (o2 + i) l2 = true := fun i hi => by simp [Nat.blt_eq]; omega
  have lt : ∀ i, i < n1 → decide (Int.ofNat i < Int.ofNat n1) = true := fun i hi => decide_eq_true (by simp; omega)
  refine loop_rule EA_ok (I := Nat) (fun i => sameT n1 n2 o1 o2 l1 l2 c1 c2 r1 r2 f1 f2 false i) (fun i => n1 - i) (fun i => i ≤ k) ?_ (fun i hi => ?_)
  · exact ⟨0, [], [o1 = o1, n1 = n1, c1 = c1, o2 = o2, n2 = n2, c2 = c2, 0 = Int.ofNat 0] ++ sameObs2 l1 l2 r1 r2 f1 f2, Nat.zero_le _, (by kernel_rfl), ob_app (ob_cons rfl (ob_cons rfl (ob_cons rfl (ob_cons rfl (ob_cons rfl (ob_cons rfl (ob_cons rfl ob_nil))))))) ob2⟩
  · by_cases hik : i = k
    · subst hik
      rcases he with ⟨h1, rfl⟩ | ⟨h1, rfl, h2⟩
      · exact round_exit (s0 := sameU n1 n2 o1 o2 l1 l2 c1 c2 r1 r2 f1 f2) (same_r3 n1 n2 o1 o2 l1 l2 c1 c2 r1 r2 f1 f2 i) (by simp) (ob_app ob2 (ob_cons (decide_eq_false (by simp; omega)) ob_nil))
      · exact round_exit (s0 := sameU n1 n2 o1 o2 l1 l2 c1 c2 r1 r2 f1 f2) (same_r2 n1 n2 o1 o2 l1 l2 c1 c2 r1 r2 f1 f2 i) (by simp) (ob_app ob2
          (ob_cons (by rw [h2]; rfl) (ob_cons (in2 i h1) (ob_cons (ix2 i h1) (ob_cons (in1 i h1) (ob_cons (ix i h1) (ob_cons (lt i h1) ob_nil)))))))
    · have hi' : i < n1 := by omega
      exact round_norm (s0 := sameU n1 n2 o1 o2 l1 l2 c1 c2 r1 r2 f1 f2) (i + 1) (same_r1 n1 n2 o1 o2 l1 l2 c1 c2 r1 r2 f1 f2 i) (ob_app
        (ob_cons rfl (ob_cons rfl (ob_cons rfl (ob_cons rfl (ob_cons rfl (ob_cons rfl (ob_cons (wrap_nat64 _ (by simp; omega) (by simp; omega)) ob2)))))))
        (ob_cons (by rw [heq i (by omega)]; rfl) (ob_cons (in2 i hi') (ob_cons (ix2 i hi') (ob_cons (in1 i hi') (ob_cons (ix i hi') (ob_cons (lt i hi') ob_nil))))))) (by show i + 1 ≤ k; omega) (by show n1 - (i + 1) < n1 - i; omega)

theorem same_loc : LocOk Tryd.prog 43 (sameA n1 n2 o1 o2 c1 c2) (sameH l1 l2 r1 r2 f1 f2) (sameR n1 n2 o1 o2 l1 l2 r1 r2 f1 f2) := by
  refine loc_of_call EA_ok (fun hp => ?_)
  have hb1 : o1 + n1 ≤ l1 := hp _ (List.mem_cons_self ..)
  have hb2 : o2 + n2 ≤ l2 := hp _ (List.mem_cons_of_mem _ (List.mem_cons_self ..))
  have hlim : n1 ≤ 1000000 := hp _ (List.mem_cons_of_mem _ (List.mem_cons_of_mem _ (List.mem_cons_self ..)))
  have ob2 : ∀ p ∈ sameObs2 l1 l2 r1 r2 f1 f2, p := ob_cons rfl (ob_cons (Nat.le_refl _) (ob_cons (.inl ⟨rfl, rfl⟩) (ob_cons rfl (ob_cons (Nat.le_refl _) (ob_cons (.inl ⟨rfl, rfl⟩) ob_nil)))))
  by_cases hn : n1 = n2
  · have hne : (Int.ofNat n1 != Int.ofNat n2) = false := by simp [hn]
    rcases first_false (fun i => entB (f1 (o1 + i)) (f2 (o2 + i))) n1 with h | ⟨k, h1, h2, h3⟩
    · have hs : sameB n1 n2 o1 o2 f1 f2 = true := by
        simp only [sameB, Bool.and_eq_true]
        exact ⟨by simp [hn], (allB_iff _ _).2 h⟩
      exact ⟨2000, _, [], _, same_c2 n1 n2 o1 o2 l1 l2 c1 c2 r1 r2 f1 f2 (.exit 0) (.inr rfl), ob_app (ob_app (ob_cons hs.symm ob_nil) ob2) (ob_cons (same_lp n1 n2 o1 o2 l1 l2 c1 c2 r1 r2 f1 f2 hb1 hb2 hn hlim n1 (Nat.le_refl _) h _ (.inl ⟨rfl, rfl⟩)) (ob_cons hne ob_nil))⟩
    · have hs : sameB n1 n2 o1 o2 f1 f2 = false := by
        simp only [sameB, Bool.and_eq_false_iff]
        refine .inr ?_
        cases ha : allB (fun i => entB (f1 (o1 + i)) (f2 (o2 + i))) n1 with
        | false => rfl
        | true => have := (allB_iff _ _).1 ha k h1; rw [h2] at this; cases this
      exact ⟨2000, _, [], _, same_c2 n1 n2 o1 o2 l1 l2 c1 c2 r1 r2 f1 f2 .ret (.inl rfl), ob_app (ob_app (ob_cons hs.symm ob_nil) ob2) (ob_cons (same_lp n1 n2 o1 o2 l1 l2 c1 c2 r1 r2 f1 f2 hb1 hb2 hn hlim k (Nat.le_of_lt h1) h3 _ (.inr ⟨h1, rfl, h2⟩)) (ob_cons hne ob_nil))⟩
  · have hs : sameB n1 n2 o1 o2 f1 f2 = false := by
      simp only [sameB, Bool.and_eq_false_iff]
      refine .inl ?_
      rw [← Bool.not_eq_true, Nat.beq_eq]; exact hn
    exact ⟨2000, _, [], _, same_c1 n1 n2 o1 o2 l1 l2 c1 c2 r1 r2 f1 f2, ob_app (ob_app (ob_cons hs.symm ob_nil) ob2) (ob_cons (by simp [bne]; omega) ob_nil)⟩

end

noncomputable def sameSpec : LSpec := fun la lh => match la, lh with
  | [.ss w1 a o1 n1 c1, .ss w2 b o2 n2 c2], [(x, .arr v1 s1 r1 l1 f1), (y, .arr v2 s2 r2 l2 f2)] =>
    match Nat.beq w1 6 && (Nat.beq w2 6 && (Nat.beq a 1 && (Nat.beq b 2 && (Nat.beq x 1 && (Nat.beq y 2 && (Nat.beq v1 6 && (Nat.beq v2 6 && (shBeq s1 eSh && shBeq s2 eSh)))))))) with
    | true => some (sameR n1 n2 o1 o2 l1 l2 r1 r2 f1 f2)
    | false => none
  | _, _ => none

theorem sameSpec_ok (la : List AV) (lh : List (Nat × AO)) (R : LR) (h : sameSpec la lh = some R) : LocOk Tryd.prog 43 la lh R := by
  unfold sameSpec at h
  split at h
  · rename_i w1 a o1 n1 c1 w2 b o2 n2 c2 x v1 s1 r1 l1 f1 y v2 s2 r2 l2 f2
    split at h
    · rename_i hb
      simp only [Bool.and_eq_true] at hb
      obtain ⟨e1, e2, e3, e4, e5, e6, e7, e8, e9, e10⟩ := hb
      have e1 := Nat.eq_of_beq_eq_true e1; subst e1
      have e2 := Nat.eq_of_beq_eq_true e2; subst e2
      have e3 := Nat.eq_of_beq_eq_true e3; subst e3
      have e4 := Nat.eq_of_beq_eq_true e4; subst e4
      have e5 := Nat.eq_of_beq_eq_true e5; subst e5
      have e6 := Nat.eq_of_beq_eq_true e6; subst e6
      have e7 := Nat.eq_of_beq_eq_true e7; subst e7
      have e8 := Nat.eq_of_beq_eq_true e8; subst e8
      have e9 := shBeq_eq e9; subst e9
      have e10 := shBeq_eq e10; subst e10
      cases h
      exact same_loc n1 n2 o1 o2 l1 l2 c1 c2 r1 r2 f1 f2
    · cases h
  · cases h

end Go.Proofs.YtmndhjodbnojdaaDoor
