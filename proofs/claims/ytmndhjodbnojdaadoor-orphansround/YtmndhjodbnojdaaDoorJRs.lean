/-
  Same of a pair; spoil.
-/
import Derived.Test.YtmndhjodbnojdaaDoorJRsDef
set_option linter.unusedSimpArgs false
set_option linter.unusedVariables false
namespace Go.Proofs.YtmndhjodbnojdaaDoor
open Go.Ev
theorem sme_1 (S : MS) (n l : Nat) (g : Nat → Nat → AV) (s2 : Int) (L2 : LS) : callB EP1 2000 48 [AV.agg [AV.ptr 1 0 0, AV.ptr 3 0 0]] (smeH S n l g s2 L2) (smeR S n l g s2 L2) [] [Hint.node [(9, [Hint.b true])]] =
 some ([(S.st == s2) = true,
 S.st = S.st,
 S.L.c = S.L.c,
 S.L.k = S.L.k,
 S.L.a = S.L.a,
 S.L.f = S.L.f,
 S.L.w = S.L.w,
 S.L.i = S.L.i,
 S.L.d = S.L.d,
 ∀ (k : List Int), S.M k = S.M k,
 (0 : Nat) = 0,
 n = n,
 (none : Option Nat) = none,
 s2 = s2,
 L2.c = L2.c,
 L2.k = L2.k,
 L2.a = L2.a,
 L2.f = L2.f,
 L2.w = L2.w,
 L2.i = L2.i,
 L2.d = L2.d,
 false = false,
 l ≤ l,
 g = g ∧ plainSh wSh = true ∨ ∀ (i : Nat), i < l → rowOb wSh 0 (g i) (g i),
 (and2 (S.L.c == L2.c) (and2 (and2 (S.L.k == L2.k) (and2 (S.L.a == L2.a) (and2 (S.L.f == L2.f) true))) (and2 (S.L.w == L2.w) (and2 (S.L.i == L2.i) (and2 (S.L.d == L2.d) true)))) == true) = true]) := by kernel_rfl
theorem sme_loc (S : MS) (n l : Nat) (g : Nat → Nat → AV) (s2 : Int) (L2 : LS) : LocOk Tryd.prog 48 [.agg [.ptr 1 0 0, .ptr 3 0 0]] (smeH S n l g s2 L2) (smeR S n l g s2 L2) := by
  refine loc_of_call EP1_ok (fun hp => ?_)
  have hb : Both S (mkR n g s2 L2) := hp _ (List.mem_cons_self ..)
  clear hp
  refine ⟨2000, _, _, _, sme_1 .., (ob_cons ?_ (ob_cons rfl (ob_cons rfl (ob_cons rfl (ob_cons rfl (ob_cons rfl (ob_cons rfl (ob_cons rfl (ob_cons rfl (ob_cons (fun _ => rfl) (ob_cons rfl (ob_cons rfl (ob_cons rfl (ob_cons rfl (ob_cons rfl (ob_cons rfl (ob_cons rfl (ob_cons rfl (ob_cons rfl (ob_cons rfl (ob_cons rfl (ob_cons rfl (ob_cons (Nat.le_refl _) (ob_cons (.inl ⟨rfl, rfl⟩) (ob_cons ?_ ob_nil)))))))))))))))))))))))))⟩
  ·
    first | (apply Nat.ble_eq_true_of_le; omega) | (simp [Nat.blt_eq]; omega) | (have e1 : s2 = S.st := hb.st.symm); (have e2 : L2 = S.L := hb.L.symm); subst e1; subst e2; first | (simp; done) | (simp [and2_eq]; done)
  ·
    first | (apply Nat.ble_eq_true_of_le; omega) | (simp [Nat.blt_eq]; omega) | (have e1 : s2 = S.st := hb.st.symm); (have e2 : L2 = S.L := hb.L.symm); subst e1; subst e2; first | (simp; done) | (simp [and2_eq]; done)
noncomputable def smeSpec : LSpec := fun la lh => match la, lh with
  | [.agg [.ptr z1 z2 z3, .ptr z4 z5 z6]], [(z7, .cells z8 [.map z9, .sym .i64 st, .sym .u8 c0, .sym .u8 k0, .sym .i64 a0, .sym .i64 f0, .sym .u64 w0, .sym .u64 i0, .symb d0]), (z10, .map z11 M), (z12, .cells z13 [.ss z14 z15 z16 n none, .sym .i64 st2, .sym .u8 c2, .sym .u8 k2, .sym .i64 a2, .sym .i64 f2, .sym .u64 w2, .sym .u64 i2, .symb d2]), (z17, .arr z18 z19 false l g)] =>
    match Nat.beq z1 1 && (Nat.beq z2 0 && (Nat.beq z3 0 && (Nat.beq z4 3 && (Nat.beq z5 0 && (Nat.beq z6 0 && (Nat.beq z7 1 && (Nat.beq z8 9 && (Nat.beq z9 2 && (Nat.beq z10 2 && (Nat.beq z11 115 && (Nat.beq z12 3 && (Nat.beq z13 9 && (Nat.beq z14 4 && (Nat.beq z15 4 && (Nat.beq z16 0 && (Nat.beq z17 4 && (Nat.beq z18 4 && (shBeq z19 wSh)))))))))))))))))) with
    | true => some (smeR ⟨M, st, ⟨c0, k0, a0, f0, w0, i0, d0⟩⟩ n l g st2 ⟨c2, k2, a2, f2, w2, i2, d2⟩)
    | false => none
  | _, _ => none
theorem smeSpec_ok (la : List AV) (lh : List (Nat × AO)) (R : LR) (h : smeSpec la lh = some R) : LocOk Tryd.prog 48 la lh R := by
  unfold smeSpec at h
  split at h
  · rename_i z1 z2 z3 z4 z5 z6 z7 z8 z9 st c0 k0 a0 f0 w0 i0 d0 z10 z11 M z12 z13 z14 z15 z16 n st2 c2 k2 a2 f2 w2 i2 d2 z17 z18 z19 l g
    split at h
    · rename_i hb
      simp only [Bool.and_eq_true] at hb
      obtain ⟨e1, e2, e3, e4, e5, e6, e7, e8, e9, e10, e11, e12, e13, e14, e15, e16, e17, e18, e19⟩ := hb
      have e1 := Nat.eq_of_beq_eq_true e1; subst e1
      have e2 := Nat.eq_of_beq_eq_true e2; subst e2
      have e3 := Nat.eq_of_beq_eq_true e3; subst e3
      have e4 := Nat.eq_of_beq_eq_true e4; subst e4
      have e5 := Nat.eq_of_beq_eq_true e5; subst e5
      have e6 := Nat.eq_of_beq_eq_true e6; subst e6
      have e7 := Nat.eq_of_beq_eq_true e7; subst e7
      have e8 := Nat.eq_of_beq_eq_true e8; subst e8
      have e9 := Nat.eq_of_beq_eq_true e9; subst e9
      have e10 := Nat.eq_of_beq_eq_true e10; subst e10
      have e11 := Nat.eq_of_beq_eq_true e11; subst e11
      have e12 := Nat.eq_of_beq_eq_true e12; subst e12
      have e13 := Nat.eq_of_beq_eq_true e13; subst e13
      have e14 := Nat.eq_of_beq_eq_true e14; subst e14
      have e15 := Nat.eq_of_beq_eq_true e15; subst e15
      have e16 := Nat.eq_of_beq_eq_true e16; subst e16
      have e17 := Nat.eq_of_beq_eq_true e17; subst e17
      have e18 := Nat.eq_of_beq_eq_true e18; subst e18
      have e19 := shBeq_eq e19; subst e19
      cases h
      exact sme_loc ⟨M, st, ⟨c0, k0, a0, f0, w0, i0, d0⟩⟩ n l g st2 ⟨c2, k2, a2, f2, w2, i2, d2⟩
    · cases h
  · cases h

theorem splr_1 (n : Nat) (l : Nat) (f : Nat → Nat → AV) (ii : Nat) : roundB EP1 2000 splL ((splU n l f).hp) [] (splT n l f ii) [Hint.b true] (splT n l f (ii + 1)) =
 some (Ex.norm, [(0 : Nat) = 0,
 n = n,
 some n = some n,
 IntKind.i64.wrap (Int.ofNat ii + 1) = Int.ofNat (ii + 1),
 false = false,
 l ≤ l,
 yF (spN f (ii + 1)) = upd (yF (spN f ii)) (0 + ii) 0 (AV.agg (splice (ofVal (Value.agg #[Value.int IntKind.i64 0, Value.int IntKind.u32 0, Value.bool false, Value.int IntKind.u64 0, Value.int IntKind.u64 0, Value.int IntKind.u64 0])).cells 3 (ofVal (Value.int IntKind.u64 7777777)).cells)).cells ∧ plainSh ySh = true ∨ ∀ (i : Nat), i < l → rowOb ySh 0 (upd (yF (spN f ii)) (0 + ii) 0 (AV.agg (splice (ofVal (Value.agg #[Value.int IntKind.i64 0, Value.int IntKind.u32 0, Value.bool false, Value.int IntKind.u64 0, Value.int IntKind.u64 0, Value.int IntKind.u64 0])).cells 3 (ofVal (Value.int IntKind.u64 7777777)).cells)).cells i) (yF (spN f (ii + 1)) i),
 (0 + ii).blt l = true,
 (ii.blt n && decide (0 ≤ Int.ofNat ii)) = true,
 decide (Int.ofNat ii < Int.ofNat n) = true]) := by kernel_rfl
theorem splr_2 (n : Nat) (l : Nat) (f : Nat → Nat → AV) (ii : Nat) : roundB EP1 2000 splL ((splU n l f).hp) [] (splT n l f ii) [Hint.b false] (splX n l f ii) =
 some (Ex.exit 0, [(0 : Nat) = 0,
 n = n,
 some n = some n,
 false = false,
 l ≤ l,
 yF (spN f ii) = yF (spN f ii) ∧ plainSh ySh = true ∨ ∀ (i : Nat), i < l → rowOb ySh 0 (yF (spN f ii) i) (yF (spN f ii) i),
 decide (Int.ofNat ii < Int.ofNat n) = false]) := by kernel_rfl
theorem spli_1 (n : Nat) (l : Nat) (f : Nat → Nat → AV) : castSt ((splU n l f).hp) [] (splU n l f) (splT n l f 0) =
 some ([(0 : Nat) = 0,
 n - 0 = n,
 some (n - 0) = some n,
 (0 : Int) = 0,
 false = false,
 l ≤ l,
 yF (spN f 0) = f ∧ plainSh ySh = true ∨ ∀ (i : Nat), i < l → rowOb ySh 0 (f i) (yF (spN f 0) i)]) := by kernel_rfl
theorem spl_lp (n : Nat) (l : Nat) (f : Nat → Nat → AV) (hnl : n ≤ l) (hn : n ≤ 1000000) : splLP n l f := by
  refine loop_rule EP1_ok (I := Nat) (fun i => splT n l f i) (fun i => n - i) (fun i => i ≤ n) ?_ (fun ii hi => ?_)
  ·
    refine ⟨0, [], _, Nat.zero_le _, spli_1 .., (ob_cons rfl (ob_cons ?_ (ob_cons ?_ (ob_cons rfl (ob_cons rfl (ob_cons (Nat.le_refl _) (ob_cons ?_ ob_nil)))))))⟩
    ·
      first | exact rfl | exact .inl ⟨rfl, rfl⟩ | exact .inr (sameY_rows _) | exact Nat.le_refl _ | exact Nat.sub_zero n | (rw [Nat.sub_zero]; done) | rfl
    ·
      first | exact rfl | exact .inl ⟨rfl, rfl⟩ | exact .inr (sameY_rows _) | exact Nat.le_refl _ | exact Nat.sub_zero n | (rw [Nat.sub_zero]; done) | rfl
    ·
      first | exact rfl | exact .inl ⟨rfl, rfl⟩ | exact .inr (sameY_rows _) | exact Nat.le_refl _ | exact Nat.sub_zero n | (rw [Nat.sub_zero]; done) | exact .inl ⟨rfl, rfl⟩
  have hi : ii ≤ n := hi
  cases h1 : (decide (Int.ofNat ii < Int.ofNat n)) with
  | true =>
    have g1 := of_decide_eq_true h1
    try simp only [Int.ofNat_eq_natCast, ge_iff_le, gt_iff_lt, Int.not_lt, Int.not_le] at g1
    refine round_norm (s0 := splU n l f) (T := fun i => splT n l f i) (i := ii) (ii + 1) (splr_1 ..) (ob_cons rfl (ob_cons rfl (ob_cons rfl (ob_cons ?_ (ob_cons rfl (ob_cons (Nat.le_refl _) (ob_cons ?_ (ob_cons ?_ (ob_cons ?_ (ob_cons h1 ob_nil)))))))))) (by show ii + 1 ≤ n; omega) (by show n - (ii + 1) < n - ii; omega)
    ·
      first | with_reducible assumption | exact rfl | exact .inl ⟨rfl, rfl⟩ | exact .inr (spN_rows rfl _) | exact .inr (sameY_rows _) | exact hi1 | exact hi2 | (apply Nat.ble_eq_true_of_le; omega) | (simp [Nat.blt_eq]; omega) | (simp; done) | (simp; omega) | omega | exact wrap_nat64 _ (by simp; omega) (by simp; omega)
    ·
      first | with_reducible assumption | exact rfl | exact .inl ⟨rfl, rfl⟩ | exact .inr (spN_rows rfl _) | exact .inr (sameY_rows _) | exact hi1 | exact hi2 | (apply Nat.ble_eq_true_of_le; omega) | (simp [Nat.blt_eq]; omega) | (simp; done) | (simp; omega) | omega | exact .inl ⟨rfl, rfl⟩
    ·
      first | with_reducible assumption | exact rfl | exact .inl ⟨rfl, rfl⟩ | exact .inr (spN_rows rfl _) | exact .inr (sameY_rows _) | exact hi1 | exact hi2 | (apply Nat.ble_eq_true_of_le; omega) | (simp [Nat.blt_eq]; omega) | (simp; done) | (simp; omega) | omega | (apply Nat.ble_eq_true_of_le; omega) | (simp [Nat.blt_eq]; omega)
    ·
      first | with_reducible assumption | exact rfl | exact .inl ⟨rfl, rfl⟩ | exact .inr (spN_rows rfl _) | exact .inr (sameY_rows _) | exact hi1 | exact hi2 | (apply Nat.ble_eq_true_of_le; omega) | (simp [Nat.blt_eq]; omega) | (simp; done) | (simp; omega) | omega | (apply Nat.ble_eq_true_of_le; omega) | (simp [Nat.blt_eq]; omega)
  | false =>
    have g1 := of_decide_eq_false h1
    try simp only [Int.ofNat_eq_natCast, ge_iff_le, gt_iff_lt, Int.not_lt, Int.not_le] at g1
    obtain rfl : n = ii := by omega
    refine round_exit (s0 := splU n l f) (T := fun i => splT n l f i) (i := n) (splr_2 ..) (by simp) (ob_cons rfl (ob_cons rfl (ob_cons rfl (ob_cons rfl (ob_cons (Nat.le_refl _) (ob_cons (.inl ⟨rfl, rfl⟩) (ob_cons h1 ob_nil)))))))
theorem spo_1 (n : Nat) (c : Nat) (l : Nat) (f : Nat → Nat → AV) : callB EP1 2000 97 [AV.ss 6 1 0 n (some c)] (spoH n c l f) (spoR n c l f) [] [Hint.lp [0, 2] (Ex.exit 0) (splX c l f c).tmps (splX c l f c).hp.heap 2 [1], Hint.b true] =
 some ([false = false,
 c ≤ l,
 (yF fun x => spE) = yF (spN f c) ∧ plainSh ySh = true ∨ ∀ (i : Nat), i < c → rowOb ySh 0 (yF (spN f c) i) (yF (fun x => spE) i),
 splLP c l f,
 (Nat.blt 0 (capOr (some c) n) || Nat.beq 0 0) = true,
 (c.ble (capOr (some c) n) && decide (0 ≤ Int.ofNat c)) = true]) := by kernel_rfl
theorem spo_loc (n : Nat) (c : Nat) (l : Nat) (f : Nat → Nat → AV) : LocOk Tryd.prog 97 [.ss 6 1 0 n (some c)] (spoH n c l f) (spoR n c l f) := by
  refine loc_of_call EP1_ok (fun hp => ?_)
  have hnl : c ≤ l := hp _ (List.mem_cons_self ..)
  have hn : c ≤ 1000000 := hp _ (List.mem_cons_of_mem _ (List.mem_cons_self ..))
  have hnc : n ≤ c := hp _ (List.mem_cons_of_mem _ (List.mem_cons_of_mem _ (List.mem_cons_self ..)))
  clear hp
  have hlp := spl_lp c l f hnl hn
  refine ⟨2000, _, _, _, spo_1 .., (ob_cons rfl (ob_cons ?_ (ob_cons ?_ (ob_cons ?_ (ob_cons ?_ (ob_cons ?_ ob_nil))))))⟩
  ·
    first | exact hlp | exact rfl | exact hnl | exact .inr (fun i hi => row_y (show yOf (yF (spN f c) i) = spE from (by show spN f c i = spE; unfold spN; rw [if_pos hi]))) | (simp; done) | (simp [capOr]; done) | (simp [capOr]; omega) | omega | exact Nat.le_refl _ | omega
  ·
    first | exact hlp | exact rfl | exact hnl | exact .inr (fun i hi => row_y (show yOf (yF (spN f c) i) = spE from (by show spN f c i = spE; unfold spN; rw [if_pos hi]))) | (simp; done) | (simp [capOr]; done) | (simp [capOr]; omega) | omega | exact .inl ⟨rfl, rfl⟩
  ·
    first | exact hlp | exact rfl | exact hnl | exact .inr (fun i hi => row_y (show yOf (yF (spN f c) i) = spE from (by show spN f c i = spE; unfold spN; rw [if_pos hi]))) | (simp; done) | (simp [capOr]; done) | (simp [capOr]; omega) | omega | trivial
  ·
    first | exact hlp | exact rfl | exact hnl | exact .inr (fun i hi => row_y (show yOf (yF (spN f c) i) = spE from (by show spN f c i = spE; unfold spN; rw [if_pos hi]))) | (simp; done) | (simp [capOr]; done) | (simp [capOr]; omega) | omega | (apply Nat.ble_eq_true_of_le; omega) | (simp [Nat.blt_eq]; omega)
  ·
    first | exact hlp | exact rfl | exact hnl | exact .inr (fun i hi => row_y (show yOf (yF (spN f c) i) = spE from (by show spN f c i = spE; unfold spN; rw [if_pos hi]))) | (simp; done) | (simp [capOr]; done) | (simp [capOr]; omega) | omega | (apply Nat.ble_eq_true_of_le; omega) | (simp [Nat.blt_eq]; omega)
noncomputable def spoSpec : LSpec := fun la lh => match la, lh with
  | [.ss z1 z2 z3 n (some c)], [(z4, .arr z5 z6 false l f)] =>
    match Nat.beq z1 6 && (Nat.beq z2 1 && (Nat.beq z3 0 && (Nat.beq z4 1 && (Nat.beq z5 6 && (shBeq z6 ySh))))) with
    | true => some (spoR n c l f)
    | false => none
  | _, _ => none
theorem spoSpec_ok (la : List AV) (lh : List (Nat × AO)) (R : LR) (h : spoSpec la lh = some R) : LocOk Tryd.prog 97 la lh R := by
  unfold spoSpec at h
  split at h
  · rename_i z1 z2 z3 n c z4 z5 z6 l f
    split at h
    · rename_i hb
      simp only [Bool.and_eq_true] at hb
      obtain ⟨e1, e2, e3, e4, e5, e6⟩ := hb
      have e1 := Nat.eq_of_beq_eq_true e1; subst e1
      have e2 := Nat.eq_of_beq_eq_true e2; subst e2
      have e3 := Nat.eq_of_beq_eq_true e3; subst e3
      have e4 := Nat.eq_of_beq_eq_true e4; subst e4
      have e5 := Nat.eq_of_beq_eq_true e5; subst e5
      have e6 := shBeq_eq e6; subst e6
      cases h
      exact spo_loc n c l f
    · cases h
  · cases h

end Go.Proofs.YtmndhjodbnojdaaDoor
