/-
  BarriersAll: the loop of run.
-/
import Derived.Test.YtmlfmmnnbdlabaaDoorQTkDef
set_option linter.unusedSimpArgs false
set_option linter.unusedVariables false
namespace Go.Proofs.YtmlfmmnnbdlabaaDoor
open Go.Ev
theorem rnbn_1 (nb lk al : Int) (X0 X : MS) (y2 : RQ) : roundB EBq 4000 rnL ((rnU nb lk al X0).hp) [] (rnU nb lk al X) [Hint.b false] (rnW nb lk al 0 y2) =
 some (Ex.norm, [(0 : Nat) = 0,
 (0 : Nat) = 0,
 (0 : Nat) = 0,
 (0 : Nat) = 0,
 (1 : Int) = 1,
 true = true,
 (1 : Nat) ≤ (1 : Nat),
 tabF tab = tabF tab ∧ plainSh (List.map kindOfV tab) = true ∨ ∀ (i : Nat), i < 1 → rowOb (List.map kindOfV tab) 0 (tabF tab i) (tabF tab i),
 IntKind.i64.wrap (X.st + 1) = y2.S.st,
 1 = y2.S.L.c,
 5 = y2.S.L.k,
 0 = y2.S.L.a,
 0 = y2.S.L.f,
 mget X.M (key 5 0 0) = y2.S.L.w,
 mget X.M (key 5 0 0) = y2.S.L.i,
 false = y2.S.L.d,
 ∀ (k : List Int), X.M k = y2.S.M k,
 nb = nb,
 lk = y2.x.lk,
 0 = y2.x.th,
 IntKind.i64.wrap (IntKind.i64.wrap (if 4 < mget X.M (key 5 0 0) then 4 else mget X.M (key 5 0 0)) * 4) = al,
 0 = y2.x.at_,
 -1 = y2.x.wt,
 0 = y2.x.en,
 decide (0 ≥ IntKind.i64.wrap (IntKind.i64.wrap (if 4 < mget X.M (key 5 0 0) then 4 else mget X.M (key 5 0 0)) * 4)) = false]) := by kernel_rfl
theorem rnbz_1 (nb lk al : Int) (X0 X : MS) (y2 : RQ) : roundB EBq 4000 rnL ((rnU nb lk al X0).hp) [] (rnU nb lk al X) [Hint.b true] (rnO nb lk al 0 y2) =
 some (Ex.norm, [(0 : Nat) = 0,
 (0 : Nat) = 0,
 (0 : Nat) = 0,
 (0 : Nat) = 0,
 (1 : Int) = 1,
 true = true,
 (1 : Nat) ≤ (1 : Nat),
 tabF tab = tabF tab ∧ plainSh (List.map kindOfV tab) = true ∨ ∀ (i : Nat), i < 1 → rowOb (List.map kindOfV tab) 0 (tabF tab i) (tabF tab i),
 IntKind.i64.wrap (X.st + 1) = y2.S.st,
 1 = y2.S.L.c,
 5 = y2.S.L.k,
 0 = y2.S.L.a,
 0 = y2.S.L.f,
 mget X.M (key 5 0 0) = y2.S.L.w,
 mget X.M (key 5 0 0) = y2.S.L.i,
 false = y2.S.L.d,
 ∀ (k : List Int), X.M k = y2.S.M k,
 nb = nb,
 lk = y2.x.lk,
 0 = y2.x.th,
 IntKind.i64.wrap (IntKind.i64.wrap (if 4 < mget X.M (key 5 0 0) then 4 else mget X.M (key 5 0 0)) * 4) = al,
 0 = y2.x.at_,
 -1 = y2.x.wt,
 0 = y2.x.en,
 decide (0 ≥ IntKind.i64.wrap (IntKind.i64.wrap (if 4 < mget X.M (key 5 0 0) then 4 else mget X.M (key 5 0 0)) * 4)) = true]) := by kernel_rfl
theorem rnwc_1 (nb lk al : Int) (kk : Nat) (X0 : MS) (y y2 : RQ) : roundB EBq 4000 rnL ((rnU nb lk al X0).hp) [] (rnW nb lk al kk y) [Hint.b true, Hint.n 0] (rnW nb lk al (kk + 1) y2) =
 some (Ex.norm, [(0 : Nat) = 0,
 (0 : Nat) = 0,
 (0 : Nat) = 0,
 (0 : Nat) = 0,
 IntKind.i64.wrap (Int.ofNat (kk + 1) + 1) = Int.ofNat (kk + 1 + 1),
 true = true,
 (1 : Nat) ≤ (1 : Nat),
 tabF tab = tabF tab ∧ plainSh (List.map kindOfV tab) = true ∨ ∀ (i : Nat), i < 1 → rowOb (List.map kindOfV tab) 0 (tabF tab i) (tabF tab i),
 (mLoad y.S 8 y.x.th (bpFld y.x.at_)).st = y2.S.st,
 1 = y2.S.L.c,
 8 = y2.S.L.k,
 (mLoad y.S 8 y.x.th (bpFld y.x.at_)).L.a = y2.S.L.a,
 (mLoad y.S 8 y.x.th (bpFld y.x.at_)).L.f = y2.S.L.f,
 (mLoad y.S 8 y.x.th (bpFld y.x.at_)).L.w = y2.S.L.w,
 (mLoad y.S 8 y.x.th (bpFld y.x.at_)).L.i = y2.S.L.i,
 (mLoad y.S 8 y.x.th (bpFld y.x.at_)).L.d = y2.S.L.d,
 ∀ (k : List Int), y.S.M k = y2.S.M k,
 nb = nb,
 (bpS nb al (BQ.mk y.x.lk y.x.th y.x.at_ y.x.wt y.x.en true) (mget y.S.M (key 8 y.x.th (bpFld y.x.at_)))).lk = y2.x.lk,
 (bpS nb al (BQ.mk y.x.lk y.x.th y.x.at_ y.x.wt y.x.en true) (mget y.S.M (key 8 y.x.th (bpFld y.x.at_)))).th = y2.x.th,
 al = al,
 (bpS nb al (BQ.mk y.x.lk y.x.th y.x.at_ y.x.wt y.x.en true) (mget y.S.M (key 8 y.x.th (bpFld y.x.at_)))).at_ = y2.x.at_,
 (bpS nb al (BQ.mk y.x.lk y.x.th y.x.at_ y.x.wt y.x.en true) (mget y.S.M (key 8 y.x.th (bpFld y.x.at_)))).wt = y2.x.wt,
 (bpS nb al (BQ.mk y.x.lk y.x.th y.x.at_ y.x.wt y.x.en true) (mget y.S.M (key 8 y.x.th (bpFld y.x.at_)))).en = y2.x.en,
 true = true,
 true = true,
 tabF tab = tabF tab,
 BpPre nb al (BQ.mk y.x.lk y.x.th y.x.at_ y.x.wt y.x.en true),
 (bpS nb al (BQ.mk y.x.lk y.x.th y.x.at_ y.x.wt y.x.en true) (mget y.S.M (key 8 y.x.th (bpFld y.x.at_)))).on = true,
 decide (Int.ofNat (kk + 1) < 1000) = true]) := by kernel_rfl
theorem rnwo_1 (nb lk al : Int) (kk : Nat) (X0 : MS) (y y2 : RQ) : roundB EBq 4000 rnL ((rnU nb lk al X0).hp) [] (rnW nb lk al kk y) [Hint.b true, Hint.n 1] (rnO nb lk al (kk + 1) y2) =
 some (Ex.norm, [(0 : Nat) = 0,
 (0 : Nat) = 0,
 (0 : Nat) = 0,
 (0 : Nat) = 0,
 IntKind.i64.wrap (Int.ofNat (kk + 1) + 1) = Int.ofNat (kk + 1 + 1),
 true = true,
 (1 : Nat) ≤ (1 : Nat),
 tabF tab = tabF tab ∧ plainSh (List.map kindOfV tab) = true ∨ ∀ (i : Nat), i < 1 → rowOb (List.map kindOfV tab) 0 (tabF tab i) (tabF tab i),
 (mLoad y.S 8 y.x.th (bpFld y.x.at_)).st = y2.S.st,
 1 = y2.S.L.c,
 8 = y2.S.L.k,
 (mLoad y.S 8 y.x.th (bpFld y.x.at_)).L.a = y2.S.L.a,
 (mLoad y.S 8 y.x.th (bpFld y.x.at_)).L.f = y2.S.L.f,
 (mLoad y.S 8 y.x.th (bpFld y.x.at_)).L.w = y2.S.L.w,
 (mLoad y.S 8 y.x.th (bpFld y.x.at_)).L.i = y2.S.L.i,
 (mLoad y.S 8 y.x.th (bpFld y.x.at_)).L.d = y2.S.L.d,
 ∀ (k : List Int), y.S.M k = y2.S.M k,
 nb = nb,
 (bpS nb al (BQ.mk y.x.lk y.x.th y.x.at_ y.x.wt y.x.en true) (mget y.S.M (key 8 y.x.th (bpFld y.x.at_)))).lk = y2.x.lk,
 (bpS nb al (BQ.mk y.x.lk y.x.th y.x.at_ y.x.wt y.x.en true) (mget y.S.M (key 8 y.x.th (bpFld y.x.at_)))).th = y2.x.th,
 al = al,
 (bpS nb al (BQ.mk y.x.lk y.x.th y.x.at_ y.x.wt y.x.en true) (mget y.S.M (key 8 y.x.th (bpFld y.x.at_)))).at_ = y2.x.at_,
 (bpS nb al (BQ.mk y.x.lk y.x.th y.x.at_ y.x.wt y.x.en true) (mget y.S.M (key 8 y.x.th (bpFld y.x.at_)))).wt = y2.x.wt,
 (bpS nb al (BQ.mk y.x.lk y.x.th y.x.at_ y.x.wt y.x.en true) (mget y.S.M (key 8 y.x.th (bpFld y.x.at_)))).en = y2.x.en,
 true = true,
 true = true,
 tabF tab = tabF tab,
 BpPre nb al (BQ.mk y.x.lk y.x.th y.x.at_ y.x.wt y.x.en true),
 (bpS nb al (BQ.mk y.x.lk y.x.th y.x.at_ y.x.wt y.x.en true) (mget y.S.M (key 8 y.x.th (bpFld y.x.at_)))).on = false,
 decide (Int.ofNat (kk + 1) < 1000) = true]) := by kernel_rfl
theorem rnx_1 (nb lk al : Int) (kk : Nat) (X0 : MS) (y y2 : RQ) : roundB EBq 4000 rnL ((rnU nb lk al X0).hp) [] (rnO nb lk al kk y) [Hint.b true] (rnX nb lk al kk y) =
 some (Ex.exit 0, [(0 : Nat) = 0,
 (0 : Nat) = 0,
 (0 : Nat) = 0,
 (0 : Nat) = 0,
 Int.ofNat (kk + 1) = Int.ofNat (kk + 1),
 true = true,
 (1 : Nat) ≤ (1 : Nat),
 tabF tab = tabF tab ∧ plainSh (List.map kindOfV tab) = true ∨ ∀ (i : Nat), i < 1 → rowOb (List.map kindOfV tab) 0 (tabF tab i) (tabF tab i),
 y.S.st = y.S.st,
 y.S.L.c = y.S.L.c,
 y.S.L.k = y.S.L.k,
 y.S.L.a = y.S.L.a,
 y.S.L.f = y.S.L.f,
 y.S.L.w = y.S.L.w,
 y.S.L.i = y.S.L.i,
 y.S.L.d = y.S.L.d,
 ∀ (k : List Int), y.S.M k = y.S.M k,
 nb = nb,
 y.x.lk = y.x.lk,
 y.x.th = y.x.th,
 al = al,
 y.x.at_ = y.x.at_,
 y.x.wt = y.x.wt,
 y.x.en = y.x.en,
 decide (Int.ofNat (kk + 1) < 1000) = true]) := by kernel_rfl
theorem rni_1 (nb lk al : Int) (X : MS) : castSt ((rnU nb lk al X).hp) [] (rnU nb lk al X) (rnU nb lk al X) =
 some ([(0 : Nat) = 0,
 (0 : Nat) = 0,
 (0 : Nat) = 0,
 (0 : Nat) = 0,
 true = true,
 (1 : Nat) ≤ (1 : Nat),
 tabF tab = tabF tab ∧ plainSh (List.map kindOfV tab) = true ∨ ∀ (i : Nat), i < 1 → rowOb (List.map kindOfV tab) 0 (tabF tab i) (tabF tab i),
 X.st = X.st,
 X.L.c = X.L.c,
 X.L.k = X.L.k,
 X.L.a = X.L.a,
 X.L.f = X.L.f,
 X.L.w = X.L.w,
 X.L.i = X.L.i,
 X.L.d = X.L.d,
 ∀ (k : List Int), X.M k = X.M k,
 nb = nb,
 lk = lk]) := by kernel_rfl
attribute [local irreducible] rnN mget bpS
theorem rn_lp (nb lk al : Int) (X : MS) (K : Nat) (hK : K < 990) (hok : RnOk nb lk al X K) (hK0 : al ≠ 0 → 0 < K) (hK1 : al = 0 → K = 0) : rnLP nb lk al X K (rnN nb lk al X K) := by
  refine loop_rule EBq_ok (I := RJ) (fun i => rnT nb lk al K X i) (rnMu K) (rnI K) ?_ (fun ii hi => ?_)
  ·
    refine ⟨RJ.b, [], _, trivial, rni_1 .., (ob_cons rfl (ob_cons rfl (ob_cons rfl (ob_cons rfl (ob_cons rfl (ob_cons (Nat.le_refl _) (ob_cons (.inl ⟨rfl, rfl⟩) (ob_cons rfl (ob_cons rfl (ob_cons rfl (ob_cons rfl (ob_cons rfl (ob_cons rfl (ob_cons rfl (ob_cons rfl (ob_cons (fun _ => rfl) (ob_cons rfl (ob_cons rfl ob_nil))))))))))))))))))⟩
  rcases ii with _ | kk | _
  · have hy := rnN_zero nb lk al X
    have hw1 := hok.w0
    obtain ⟨hq1, ha0, ha16⟩ := rn_al hok.w0 hok.ala
    by_cases hz : al = 0
    · have hKz := hK1 hz
      subst hKz
      have hq4 : decide (0 ≥ IntKind.i64.wrap (IntKind.i64.wrap (if 4 < mget X.M (key 5 0 0) then 4 else mget X.M (key 5 0 0)) * 4)) = true := by rw [hq1]; exact decide_eq_true (by omega)
      refine round_norm (s0 := rnU nb lk al X) (T := fun i => rnT nb lk al 0 X i) (i := RJ.b) RJ.o (rnbz_1 nb lk al X X (rnN nb lk al X 0)) (ob_cons rfl (ob_cons rfl (ob_cons rfl (ob_cons rfl (ob_cons rfl (ob_cons rfl (ob_cons (Nat.le_refl _) (ob_cons (.inl ⟨rfl, rfl⟩) (ob_cons ?_ (ob_cons ?_ (ob_cons ?_ (ob_cons ?_ (ob_cons ?_ (ob_cons ?_ (ob_cons ?_ (ob_cons ?_ (ob_cons ?_ (ob_cons rfl (ob_cons ?_ (ob_cons ?_ (ob_cons ?_ (ob_cons ?_ (ob_cons ?_ (ob_cons ?_ (ob_cons ?_ ob_nil))))))))))))))))))))))))) trivial (by show 0 < 0 + 2; omega)
      · (rw [hy]; rfl)
      · (rw [hy]; rfl)
      · (rw [hy]; rfl)
      · (rw [hy]; rfl)
      · (rw [hy]; rfl)
      · (rw [hy]; rfl)
      · (rw [hy]; rfl)
      · (rw [hy]; rfl)
      · (rw [hy]; exact fun _ => rfl)
      · (rw [hy]; rfl)
      · (rw [hy]; rfl)
      · with_reducible assumption
      · (rw [hy]; rfl)
      · (rw [hy]; rfl)
      · (rw [hy]; rfl)
      · with_reducible assumption
    · have hKp := hK0 hz
      have hq4 : decide (0 ≥ IntKind.i64.wrap (IntKind.i64.wrap (if 4 < mget X.M (key 5 0 0) then 4 else mget X.M (key 5 0 0)) * 4)) = false := by rw [hq1]; exact decide_eq_false (by omega)
      refine round_norm (s0 := rnU nb lk al X) (T := fun i => rnT nb lk al K X i) (i := RJ.b) (RJ.w 0) (rnbn_1 nb lk al X X (rnN nb lk al X 0)) (ob_cons rfl (ob_cons rfl (ob_cons rfl (ob_cons rfl (ob_cons rfl (ob_cons rfl (ob_cons (Nat.le_refl _) (ob_cons (.inl ⟨rfl, rfl⟩) (ob_cons ?_ (ob_cons ?_ (ob_cons ?_ (ob_cons ?_ (ob_cons ?_ (ob_cons ?_ (ob_cons ?_ (ob_cons ?_ (ob_cons ?_ (ob_cons rfl (ob_cons ?_ (ob_cons ?_ (ob_cons ?_ (ob_cons ?_ (ob_cons ?_ (ob_cons ?_ (ob_cons ?_ ob_nil))))))))))))))))))))))))) (by show 0 < K; omega) (by show K + 1 - 0 < K + 2; omega)
      · (rw [hy]; rfl)
      · (rw [hy]; rfl)
      · (rw [hy]; rfl)
      · (rw [hy]; rfl)
      · (rw [hy]; rfl)
      · (rw [hy]; rfl)
      · (rw [hy]; rfl)
      · (rw [hy]; rfl)
      · (rw [hy]; exact fun _ => rfl)
      · (rw [hy]; rfl)
      · (rw [hy]; rfl)
      · with_reducible assumption
      · (rw [hy]; rfl)
      · (rw [hy]; rfl)
      · (rw [hy]; rfl)
      · with_reducible assumption
  · have hk : kk < K := hi
    have hi2 : decide (Int.ofNat (kk + 1) < (1000 : Int)) = true := decide_eq_true (by simp; omega)
    have hwi : IntKind.i64.wrap (Int.ofNat (kk + 1) + 1) = Int.ofNat (kk + 1 + 1) := wrap_nat64 _ (by simp; omega) (by simp; omega)
    have hpre := hok.pre kk hk
    have hy := rnN_succ nb lk al X kk
    by_cases hl : kk + 1 = K
    · subst hl
      have hon := hok.ov kk rfl
      rw [hy] at hon
      refine round_norm (s0 := rnU nb lk al X) (T := fun i => rnT nb lk al (kk + 1) X i) (i := RJ.w kk) RJ.o (rnwo_1 nb lk al kk X (rnN nb lk al X kk) (rnN nb lk al X (kk + 1))) (ob_cons rfl (ob_cons rfl (ob_cons rfl (ob_cons rfl (ob_cons ?_ (ob_cons rfl (ob_cons (Nat.le_refl _) (ob_cons (.inl ⟨rfl, rfl⟩) (ob_cons ?_ (ob_cons ?_ (ob_cons ?_ (ob_cons ?_ (ob_cons ?_ (ob_cons ?_ (ob_cons ?_ (ob_cons ?_ (ob_cons ?_ (ob_cons rfl (ob_cons ?_ (ob_cons ?_ (ob_cons rfl (ob_cons ?_ (ob_cons ?_ (ob_cons ?_ (ob_cons rfl (ob_cons rfl (ob_cons rfl (ob_cons ?_ (ob_cons ?_ (ob_cons ?_ ob_nil)))))))))))))))))))))))))))))) trivial (by show 0 < kk + 1 + 1 - kk; omega)
      · with_reducible assumption
      · (rw [hy]; rfl)
      · (rw [hy]; rfl)
      · (rw [hy]; rfl)
      · (rw [hy]; rfl)
      · (rw [hy]; rfl)
      · (rw [hy]; rfl)
      · (rw [hy]; rfl)
      · (rw [hy]; rfl)
      · (rw [hy]; exact fun _ => rfl)
      · (rw [hy]; rfl)
      · (rw [hy]; rfl)
      · (rw [hy]; rfl)
      · (rw [hy]; rfl)
      · (rw [hy]; rfl)
      · with_reducible assumption
      · exact hon
      · with_reducible assumption
    · have hon := hok.go kk (by omega)
      rw [hy] at hon
      refine round_norm (s0 := rnU nb lk al X) (T := fun i => rnT nb lk al K X i) (i := RJ.w kk) (RJ.w (kk + 1)) (rnwc_1 nb lk al kk X (rnN nb lk al X kk) (rnN nb lk al X (kk + 1))) (ob_cons rfl (ob_cons rfl (ob_cons rfl (ob_cons rfl (ob_cons ?_ (ob_cons rfl (ob_cons (Nat.le_refl _) (ob_cons (.inl ⟨rfl, rfl⟩) (ob_cons ?_ (ob_cons ?_ (ob_cons ?_ (ob_cons ?_ (ob_cons ?_ (ob_cons ?_ (ob_cons ?_ (ob_cons ?_ (ob_cons ?_ (ob_cons rfl (ob_cons ?_ (ob_cons ?_ (ob_cons rfl (ob_cons ?_ (ob_cons ?_ (ob_cons ?_ (ob_cons rfl (ob_cons rfl (ob_cons rfl (ob_cons ?_ (ob_cons ?_ (ob_cons ?_ ob_nil)))))))))))))))))))))))))))))) (by show kk + 1 < K; omega) (by show K + 1 - (kk + 1) < K + 1 - kk; omega)
      · with_reducible assumption
      · (rw [hy]; rfl)
      · (rw [hy]; rfl)
      · (rw [hy]; rfl)
      · (rw [hy]; rfl)
      · (rw [hy]; rfl)
      · (rw [hy]; rfl)
      · (rw [hy]; rfl)
      · (rw [hy]; rfl)
      · (rw [hy]; exact fun _ => rfl)
      · (rw [hy]; rfl)
      · (rw [hy]; rfl)
      · (rw [hy]; rfl)
      · (rw [hy]; rfl)
      · (rw [hy]; rfl)
      · with_reducible assumption
      · exact hon
      · with_reducible assumption
  · have hi2 : decide (Int.ofNat (K + 1) < (1000 : Int)) = true := decide_eq_true (by simp; omega)
    refine round_exit (s0 := rnU nb lk al X) (T := fun i => rnT nb lk al K X i) (i := RJ.o) (rnx_1 nb lk al K X (rnN nb lk al X K) (rnN nb lk al X K)) (by simp) (ob_cons rfl (ob_cons rfl (ob_cons rfl (ob_cons rfl (ob_cons rfl (ob_cons rfl (ob_cons (Nat.le_refl _) (ob_cons (.inl ⟨rfl, rfl⟩) (ob_cons rfl (ob_cons rfl (ob_cons rfl (ob_cons rfl (ob_cons rfl (ob_cons rfl (ob_cons rfl (ob_cons rfl (ob_cons (fun _ => rfl) (ob_cons rfl (ob_cons rfl (ob_cons rfl (ob_cons rfl (ob_cons rfl (ob_cons rfl (ob_cons rfl (ob_cons ?_ ob_nil)))))))))))))))))))))))))
    · exact hi2

end Go.Proofs.YtmlfmmnnbdlabaaDoor
