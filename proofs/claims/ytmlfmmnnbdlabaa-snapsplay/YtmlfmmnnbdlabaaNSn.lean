/-
  Snapshots: Steps.
-/
import Derived.Test.YtmlfmmnnbdlabaaNSnDef
set_option linter.unusedSimpArgs false
set_option linter.unusedVariables false
namespace Go.Proofs.Ytmlfmmnnbdlabaa
open Go.Ev
theorem sstr_1 (n l : Nat) (cc : Option Nat) (r : Bool) (g : Nat → Nat → AV) (e : Int) (ii : Nat) : roundB EM0 2000 sstL ((sstU n l cc r g e).hp) [] (sstT n l cc r g e ii) [Hint.b true, Hint.b true] (sstT n l cc r g e (ii + 1)) =
 some (Ex.norm, [(0 : Nat) = 0,
 (0 : Nat) = 0,
 IntKind.i64.wrap (IntKind.i64.wrap (stN g ii + 1) + 9) = stN g (ii + 1),
 (0 : Nat) = 0,
 n = n,
 cc = cc,
 Int.ofNat n = Int.ofNat n,
 IntKind.i64.wrap (Int.ofNat ii + 1) = Int.ofNat (ii + 1),
 (0 : Nat) = 0,
 n = n,
 cc = cc,
 e = e,
 r = r,
 l ≤ l,
 g = g ∧ plainSh tSh = true ∨ ∀ (i : Nat), i < l → rowOb tSh 0 (g i) (g i),
 (avInt (g (0 + ii) 0) != 0) = true,
 (0 + ii).blt l = true,
 (ii.blt n && decide (0 ≤ Int.ofNat ii)) = true,
 decide (Int.ofNat ii < Int.ofNat n) = true]) := by kernel_rfl
theorem sstr_2 (n l : Nat) (cc : Option Nat) (r : Bool) (g : Nat → Nat → AV) (e : Int) (ii : Nat) : roundB EM0 2000 sstL ((sstU n l cc r g e).hp) [] (sstT n l cc r g e ii) [Hint.b true, Hint.b false] (sstT n l cc r g e (ii + 1)) =
 some (Ex.norm, [(0 : Nat) = 0,
 (0 : Nat) = 0,
 IntKind.i64.wrap (stN g ii + 1) = stN g (ii + 1),
 (0 : Nat) = 0,
 n = n,
 cc = cc,
 Int.ofNat n = Int.ofNat n,
 IntKind.i64.wrap (Int.ofNat ii + 1) = Int.ofNat (ii + 1),
 (0 : Nat) = 0,
 n = n,
 cc = cc,
 e = e,
 r = r,
 l ≤ l,
 g = g ∧ plainSh tSh = true ∨ ∀ (i : Nat), i < l → rowOb tSh 0 (g i) (g i),
 (avInt (g (0 + ii) 0) != 0) = false,
 (0 + ii).blt l = true,
 (ii.blt n && decide (0 ≤ Int.ofNat ii)) = true,
 decide (Int.ofNat ii < Int.ofNat n) = true]) := by kernel_rfl
theorem sstr_3 (n l : Nat) (cc : Option Nat) (r : Bool) (g : Nat → Nat → AV) (e : Int) (ii : Nat) : roundB EM0 2000 sstL ((sstU n l cc r g e).hp) [] (sstT n l cc r g e ii) [Hint.b false] (sstX n l cc r g e ii) =
 some (Ex.exit 0, [stN g ii = stN g ii,
 (0 : Nat) = 0,
 n = n,
 cc = cc,
 e = e,
 r = r,
 l ≤ l,
 g = g ∧ plainSh tSh = true ∨ ∀ (i : Nat), i < l → rowOb tSh 0 (g i) (g i),
 decide (Int.ofNat ii < Int.ofNat n) = false]) := by kernel_rfl
theorem ssti_1 (n l : Nat) (cc : Option Nat) (r : Bool) (g : Nat → Nat → AV) (e : Int) : castSt ((sstU n l cc r g e).hp) [] (sstU n l cc r g e) (sstT n l cc r g e 0) =
 some ([(0 : Nat) = 0,
 (0 : Nat) = 0,
 (1 : Int) = 1,
 (0 : Nat) = 0,
 n = n,
 cc = cc,
 Int.ofNat n = Int.ofNat n,
 (0 : Int) = 0,
 (0 : Nat) = 0,
 n = n,
 cc = cc,
 e = e,
 r = r,
 l ≤ l,
 g = g ∧ plainSh tSh = true ∨ ∀ (i : Nat), i < l → rowOb tSh 0 (g i) (g i)]) := by kernel_rfl
theorem sst_lp (n l : Nat) (cc : Option Nat) (r : Bool) (g : Nat → Nat → AV) (e : Int) (hl : n ≤ l) (hm : n ≤ 100000) : sstLP n l cc r g e := by
  refine loop_rule EM0_ok (I := Nat) (fun i => sstT n l cc r g e i) (fun i => n - i) (fun i => i ≤ n) ?_ (fun ii hi => ?_)
  ·
    refine ⟨0, [], _, Nat.zero_le _, ssti_1 .., (ob_cons rfl (ob_cons rfl (ob_cons rfl (ob_cons rfl (ob_cons rfl (ob_cons rfl (ob_cons rfl (ob_cons rfl (ob_cons rfl (ob_cons rfl (ob_cons rfl (ob_cons rfl (ob_cons rfl (ob_cons (Nat.le_refl _) (ob_cons (.inl ⟨rfl, rfl⟩) ob_nil)))))))))))))))⟩
  have hi : ii ≤ n := hi
  have hb := stN_b g ii
  have w1 : IntKind.i64.wrap (stN g ii + 1) = stN g ii + 1 := i64w (by omega) (by omega)
  have w2 : IntKind.i64.wrap (stN g ii + 1 + 9) = stN g ii + 10 := by rw [i64w (by omega) (by omega)]; omega
  have w3 : IntKind.i64.wrap (stN g ii + 10) = stN g ii + 10 := i64w (by omega) (by omega)
  cases h1 : (decide (Int.ofNat ii < Int.ofNat n)) with
  | true =>
    have g1 := of_decide_eq_true h1
    try simp only [Int.ofNat_eq_natCast, ge_iff_le, gt_iff_lt, Int.not_lt, Int.not_le] at g1
    cases h2 : (avInt (g (0 + ii) 0) != 0) with
    | true =>
      refine round_norm (s0 := sstU n l cc r g e) (T := fun i => sstT n l cc r g e i) (i := ii) (ii + 1) (sstr_1 ..) (ob_cons rfl (ob_cons rfl (ob_cons ?_ (ob_cons rfl (ob_cons rfl (ob_cons rfl (ob_cons rfl (ob_cons ?_ (ob_cons rfl (ob_cons rfl (ob_cons rfl (ob_cons rfl (ob_cons rfl (ob_cons (Nat.le_refl _) (ob_cons (.inl ⟨rfl, rfl⟩) (ob_cons h2 (ob_cons ?_ (ob_cons ?_ (ob_cons h1 ob_nil))))))))))))))))))) (by show ii + 1 ≤ n; omega) (by show n - (ii + 1) < n - ii; omega)
      · (simp_all [stN]; done)
      · exact wrap_nat64 _ (by simp; omega) (by simp; omega)
      · (apply Nat.ble_eq_true_of_le; omega)
      · (simp [Nat.blt_eq]; omega)
    | false =>
      refine round_norm (s0 := sstU n l cc r g e) (T := fun i => sstT n l cc r g e i) (i := ii) (ii + 1) (sstr_2 ..) (ob_cons rfl (ob_cons rfl (ob_cons ?_ (ob_cons rfl (ob_cons rfl (ob_cons rfl (ob_cons rfl (ob_cons ?_ (ob_cons rfl (ob_cons rfl (ob_cons rfl (ob_cons rfl (ob_cons rfl (ob_cons (Nat.le_refl _) (ob_cons (.inl ⟨rfl, rfl⟩) (ob_cons h2 (ob_cons ?_ (ob_cons ?_ (ob_cons h1 ob_nil))))))))))))))))))) (by show ii + 1 ≤ n; omega) (by show n - (ii + 1) < n - ii; omega)
      · (simp_all [stN]; done)
      · exact wrap_nat64 _ (by simp; omega) (by simp; omega)
      · (apply Nat.ble_eq_true_of_le; omega)
      · (simp [Nat.blt_eq]; omega)
  | false =>
    have g1 := of_decide_eq_false h1
    try simp only [Int.ofNat_eq_natCast, ge_iff_le, gt_iff_lt, Int.not_lt, Int.not_le] at g1
    obtain rfl : n = ii := by omega
    refine round_exit (s0 := sstU n l cc r g e) (T := fun i => sstT n l cc r g e i) (i := n) (sstr_3 ..) (by simp) (ob_cons rfl (ob_cons rfl (ob_cons rfl (ob_cons rfl (ob_cons rfl (ob_cons rfl (ob_cons (Nat.le_refl _) (ob_cons (.inl ⟨rfl, rfl⟩) (ob_cons h1 ob_nil)))))))))
theorem ssn_1 (n l : Nat) (cc : Option Nat) (r : Bool) (g : Nat → Nat → AV) (e : Int) : callB EM0 2000 42 [AV.agg [AV.ss 10 1 0 n cc, AV.sym IntKind.u64 e]] (ssnH n l cc r g e) (ssnR n l cc r g e) [] [Hint.lp [1, 3, 7, 8, 9] (Ex.exit 0) (sstX n l cc r g e n).tmps (sstX n l cc r g e n).hp.heap 3 [], Hint.b true] =
 some ([stN g n = stN g n,
 r = r,
 l ≤ l,
 g = g ∧ plainSh tSh = true ∨ ∀ (i : Nat), i < l → rowOb tSh 0 (g i) (g i),
 sstLP n l cc r g e]) := by kernel_rfl
theorem ssn_loc (n l : Nat) (cc : Option Nat) (r : Bool) (g : Nat → Nat → AV) (e : Int) : LocOk Try.prog 42 [.agg [.ss 10 1 0 n cc, .sym .u64 e]] (ssnH n l cc r g e) (ssnR n l cc r g e) := by
  refine loc_of_call EM0_ok (fun hp => ?_)
  have hl : n ≤ l := hp _ (List.mem_cons_self ..)
  have hm : n ≤ 100000 := hp _ (List.mem_cons_of_mem _ (List.mem_cons_self ..))
  clear hp
  have hlp := sst_lp n l cc r g e hl hm
  refine ⟨2000, _, _, _, ssn_1 .., (ob_cons rfl (ob_cons rfl (ob_cons (Nat.le_refl _) (ob_cons (.inl ⟨rfl, rfl⟩) (ob_cons ?_ ob_nil)))))⟩
  · trivial
noncomputable def ssnSpec : LSpec := fun la lh => match la, lh with
  | [.agg [.ss z1 z2 z3 n cc, .sym .u64 e]], [(z4, .arr z5 z6 r l g)] =>
    match Nat.beq z1 10 && (Nat.beq z2 1 && (Nat.beq z3 0 && (Nat.beq z4 1 && (Nat.beq z5 10 && (shBeq z6 tSh))))) with
    | true => some (ssnR n l cc r g e)
    | false => none
  | _, _ => none
theorem ssnSpec_ok (la : List AV) (lh : List (Nat × AO)) (R : LR) (h : ssnSpec la lh = some R) : LocOk Try.prog 42 la lh R := by
  unfold ssnSpec at h
  split at h
  · rename_i z1 z2 z3 n cc e z4 z5 z6 r l g
    split at h
    · rename_i hb
      simp only [Bool.and_eq_true] at hb
      obtain ⟨e1, e2, e3, e4, e5, e6⟩ := hb
      have e1 := Nat.eq_of_beq_eq_true e1; subst e1
      have e2 := Nat.eq_of_beq_eq_true e2; subst e2
      have e3 := Nat.eq_of_beq_eq_true e3; subst e3
      have e4 := Nat.eq_of_beq_eq_true e4; subst e4
      have e5 := Nat.eq_of_beq_eq_true e5; subst e5
      have e6 := shBeq_eq e6; subst e6
      cases h
      exact ssn_loc n l cc r g e
    · cases h
  · cases h

end Go.Proofs.Ytmlfmmnnbdlabaa
