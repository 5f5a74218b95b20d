/-
  StallsPlay: the states of its loop, its members, their rows.
-/
import Derived.Test.YtephpkfajobhmaaWPfDef
import Derived.Test.YtephpkfajobhmaaWBegDef
set_option linter.unusedSimpArgs false
set_option linter.unusedVariables false
namespace Go.Proofs.Ytephpkfajobhmaa
open Go.Ev
noncomputable def EPg : Env := envG Try.prog ([(29, locSP pstSpec), (31, locSP smeSpec)] ++ memSP)
theorem EPg_ok : EnvOk EPg := envG_ok mgood ⟨locSP_ok pstSpec_ok, locSP_ok smeSpec_ok, memSP_ok⟩
def asSh : List CK := [.int .u8, .int .i64, .int .u8, .int .i64, .int .i64, .int .u64]
noncomputable def sgF : B.Fam := ⟨fam0, 2, 1, [.val], 8, 1, [.val], 9⟩
section
variable (m : Nat) (f : Nat → Nat → AV)
noncomputable def sgU : St := ⟨[.ss 6 1 0 m none, .top, .top, .ptr 7 0 0, .nils, .nils, .int .i64 0] ++ List.replicate 116 .top, ⟨[(7, .cells 2 [.ptr 4 0 0, .ptr 5 0 0]), (6, .cells 2 [.ptr 4 0 0, .ptr 5 0 0]), (5, .cells 9 (.nils :: bg0)), (4, .cells 9 (.map 3 :: bg0)), (3, .map 26 (fun _ => none)), (2, .cells 2 [.ptr 4 0 0, .ptr 5 0 0]), (1, .arr 6 asSh true m f)], 8, gnm 0, [], [], [7, 2, 6], false⟩⟩
noncomputable def sgT (i : Nat) (x : ST) : FSt := ⟨[.ss 6 1 0 m none, .top, .top, .ptr 7 0 0, .ss 1 8 0 x.n none, .ss 1 9 0 x.n none, .sym .i64 (Int.ofNat i)] ++ List.replicate 116 .top, [(7, .cells 2 [.ptr 4 0 0, .ptr 5 0 0]), (1, .arr 6 asSh true m f), (4, .cells 9 (.map 3 :: lsL x.S.st x.S.L)), (3, .map 26 x.S.M), (5, .cells 9 (.ss 4 10 0 x.R.D.n none :: lsL x.R.st x.R.L)), (10, .arr 4 wSh false x.R.D.n (wdF x.R.D.W))], x.n, fun i => sMb (x.O i), [3, 4, 5, 7, 2, 6]⟩
noncomputable def sgX (S : MS) (R : RS) : St := ⟨[.ss 6 1 0 m none, .top, .top, .ptr 7 0 0] ++ List.replicate 119 .top, ⟨[(7, .cells 2 [.ptr 4 0 0, .ptr 5 0 0]), (1, .arr 6 asSh true m f), (4, .cells 9 (.map 3 :: lsL S.st S.L)), (3, .map 26 S.M), (5, .cells 9 (.ss 4 10 0 R.D.n none :: lsL R.st R.L)), (10, .arr 4 wSh false R.D.n (wdF R.D.W))], 11, gnm 0, [], [], [3, 4, 5, 7, 2, 6], false⟩⟩
noncomputable abbrev sgL : Code := loopAt Try.prog 9 0
noncomputable def sgLP : Prop := LoopHolds Try.prog sgL (sgU m f) (.exit 0) (sgX m f (stN f m).S (stN f m).R)
end
theorem sgV : ∀ (j : Nat) k, sgF.sh[j]? = some k → k = .val := allVal (by intro k hk; simpa [sgF] using hk)
theorem sgV2 : ∀ (j : Nat) k, sgF.sh2[j]? = some k → k = .val := allVal (by intro k hk; simpa [sgF] using hk)
theorem sgC {c : Nat} {k : CK} (h : sgF.sh[c]? = some k) : c = 0 := by
  have := (List.getElem?_eq_some_iff.1 h).1
  have e : sgF.sh.length = 1 := rfl
  omega
theorem sgC2 {c : Nat} {k : CK} (h : sgF.sh2[c]? = some k) : c = 0 := by
  have := (List.getElem?_eq_some_iff.1 h).1
  have e : sgF.sh2.length = 1 := rfl
  omega
theorem sMb_ok (o : SO) : B.MbOk sgF (sMb o) := by
  refine ⟨fun c k h => ?_, fun c k h => ?_, fun c o h => ?_⟩
  · have hk := sgV c k h
    subst hk
    obtain rfl := sgC h
    exact ⟨_, rfl, fun b => ⟨_, rfl⟩, rfl⟩
  · have hk := sgV2 c k h
    subst hk
    obtain rfl := sgC2 h
    exact ⟨_, rfl, fun b => ⟨_, rfl⟩, rfl⟩
  · rcases get_cons h with ⟨rfl, rfl⟩ | ⟨_, h⟩
    · exact ⟨by decide, fun b => ⟨_, rfl⟩⟩
    · rcases get_cons h with ⟨rfl, rfl⟩ | ⟨_, h⟩
      · exact ⟨by decide, fun b => ⟨_, rfl⟩⟩
      · simp [Go.Ev.get] at h
section
variable {m : Nat} {f : Nat → Nat → AV} {ii : Nat} {x : ST}
theorem sg_new {c : CM} {K0 : Nat} (h0 : c.same 900 K0 = true) (o : SO) : ∀ (cc : Nat) kk, sgF.sh[cc]? = some kk → valV c (rowsOf 1 [.ptr K0 0 0] 0 cc) (mrow 2 900 (sMb o) cc) := by
  intro cc kk h
  obtain rfl := sgC h
  exact valV_ptr h0
theorem sg_do {c : CM} (hc : c.hi = fam0) (h0 : c.same 900 900 = true) {j : Nat} {o : SO} (ho : x.O j = o) : ∀ i, i < x.n → rowV c sgF.sh 0 (lrow fam0 2 (sgT m f ii x).M j i) (lrow fam0 2 (sgT m f (ii + 1) (stDo x j o)).M j i) := by
  refine B.fam_rows (F := sgF) (n := 0) sgV (by rw [hc]; exact Nat.le_refl _) (M := (sgT m f ii x).M) (fun i hi hne => ⟨sMb_ok _, ?_, fun cc => lrow_ne hne⟩) (fun hj cc k hk => ?_)
  · show sMb (if i = j then _ else x.O i) = sMb (x.O i); rw [if_neg hne]
  · obtain rfl := sgC hk
    refine valV_eq (lrow_j rfl) ?_
    have e1 : (sgT m f (ii + 1) (stDo x j o)).M j = sMb (soO x.S o) := by show sMb (if j = j then _ else _) = _; rw [if_pos rfl]
    rw [e1]
    exact valV_ptr h0
theorem sg_no {c : CM} (hc : c.hi = fam0) {j : Nat} (hj : x.n ≤ j) {y : ST} (hy : y.n = x.n) (hO : ∀ i, y.O i = x.O i) : ∀ i, i < y.n → rowV c sgF.sh 0 (lrow fam0 2 (sgT m f ii x).M j i) (lrow fam0 2 (sgT m f (ii + 1) y).M j i) := by
  refine B.fam_rows (F := sgF) (n := 0) sgV (by rw [hc]; exact Nat.le_refl _) (M := (sgT m f ii x).M) (fun i hi hne => ⟨sMb_ok _, ?_, fun cc => lrow_ne hne⟩) (fun h cc k hk => ?_)
  · show sMb (y.O i) = sMb (x.O i); rw [hO]
  · omega
theorem sg_add {c : CM} (hc : c.hi = fam0) {K0 : Nat} (h0 : c.same 900 K0 = true) (o : SO) : ∀ i, i < x.n + 1 → rowV c sgF.sh 0 (fun j => if i < x.n then lrow fam0 2 (sgT m f ii x).M x.n (0 + i) j else rowsOf 1 [.ptr K0 0 0] (i - x.n) j) (lrow fam0 2 (sgT m f (ii + 1) (stAdd x o)).M x.n i) := by
  refine B.fam_rows (F := sgF) (n := 0) sgV (by rw [hc]; exact Nat.le_refl _) (M := (sgT m f ii x).M) (src := fun i => (fun j => if i < x.n then lrow fam0 2 (sgT m f ii x).M x.n (0 + i) j else rowsOf 1 [.ptr K0 0 0] (i - x.n) j)) (fun i hi hne => ⟨sMb_ok _, ?_, fun cc => ?_⟩) (fun hj cc kk hkk => ?_)
  · show sMb (if i = x.n then _ else x.O i) = sMb (x.O i); rw [if_neg hne]
  · show (if i < x.n then _ else _) = _
    rw [if_pos (by omega), Nat.zero_add]
    exact lrow_ne hne
  · have e1 : (sgT m f (ii + 1) (stAdd x o)).M x.n = sMb o := by show sMb (if x.n = x.n then _ else _) = _; rw [if_pos rfl]
    rw [e1]
    show valV c (if x.n < x.n then _ else _) _
    rw [if_neg (Nat.lt_irrefl _), Nat.sub_self]
    exact sg_new h0 o cc _ hkk
theorem sg_new2 {c : CM} {K0 : Nat} (h0 : c.same 901 K0 = true) (o : SO) : ∀ (cc : Nat) kk, sgF.sh2[cc]? = some kk → valV c (rowsOf 1 [.ptr K0 0 0] 0 cc) (mrow 2 900 (sMb o) (cc + 1)) := by
  intro cc kk h
  obtain rfl := sgC2 h
  exact valV_ptr h0
theorem sg_do2 {c : CM} (hc : c.hi = fam0) (h0 : c.same 901 901 = true) {j : Nat} {o : SO} (ho : x.O j = o) : ∀ i, i < x.n → rowV c sgF.sh2 0 (fun c => lrow fam0 2 (sgT m f ii x).M j i (c + 1)) (fun c => lrow fam0 2 (sgT m f (ii + 1) (stDo x j o)).M j i (c + 1)) := by
  refine B.fam_rows2 (F := sgF) (n := 0) sgV2 (by rw [hc]; exact Nat.le_refl _) (M := (sgT m f ii x).M) (fun i hi hne => ⟨sMb_ok _, ?_, fun cc => lrow_ne hne⟩) (fun hj cc k hk => ?_)
  · show sMb (if i = j then _ else x.O i) = sMb (x.O i); rw [if_neg hne]
  · obtain rfl := sgC2 hk
    refine valV_eq (lrow_j rfl) ?_
    have e1 : (sgT m f (ii + 1) (stDo x j o)).M j = sMb (soO x.S o) := by show sMb (if j = j then _ else _) = _; rw [if_pos rfl]
    rw [e1]
    exact valV_ptr h0
theorem sg_no2 {c : CM} (hc : c.hi = fam0) {j : Nat} (hj : x.n ≤ j) {y : ST} (hy : y.n = x.n) (hO : ∀ i, y.O i = x.O i) : ∀ i, i < y.n → rowV c sgF.sh2 0 (fun c => lrow fam0 2 (sgT m f ii x).M j i (c + 1)) (fun c => lrow fam0 2 (sgT m f (ii + 1) y).M j i (c + 1)) := by
  refine B.fam_rows2 (F := sgF) (n := 0) sgV2 (by rw [hc]; exact Nat.le_refl _) (M := (sgT m f ii x).M) (fun i hi hne => ⟨sMb_ok _, ?_, fun cc => lrow_ne hne⟩) (fun h cc k hk => ?_)
  · show sMb (y.O i) = sMb (x.O i); rw [hO]
  · omega
theorem sg_add2 {c : CM} (hc : c.hi = fam0) {K0 : Nat} (h0 : c.same 901 K0 = true) (o : SO) : ∀ i, i < x.n + 1 → rowV c sgF.sh2 0 (fun j => if i < x.n then lrow fam0 2 (sgT m f ii x).M x.n (0 + i) (j + 1) else rowsOf 1 [.ptr K0 0 0] (i - x.n) j) (fun c => lrow fam0 2 (sgT m f (ii + 1) (stAdd x o)).M x.n i (c + 1)) := by
  refine B.fam_rows2 (F := sgF) (n := 0) sgV2 (by rw [hc]; exact Nat.le_refl _) (M := (sgT m f ii x).M) (src := fun i => (fun j => if i < x.n then lrow fam0 2 (sgT m f ii x).M x.n (0 + i) (j + 1) else rowsOf 1 [.ptr K0 0 0] (i - x.n) j)) (fun i hi hne => ⟨sMb_ok _, ?_, fun cc => ?_⟩) (fun hj cc kk hkk => ?_)
  · show sMb (if i = x.n then _ else x.O i) = sMb (x.O i); rw [if_neg hne]
  · show (if i < x.n then _ else _) = _
    rw [if_pos (by omega), Nat.zero_add]
    exact lrow_ne hne
  · have e1 : (sgT m f (ii + 1) (stAdd x o)).M x.n = sMb o := by show sMb (if x.n = x.n then _ else _) = _; rw [if_pos rfl]
    rw [e1]
    show valV c (if x.n < x.n then _ else _) _
    rw [if_neg (Nat.lt_irrefl _), Nat.sub_self]
    exact sg_new2 h0 o cc _ hkk
theorem sgOk (hn : x.n ≤ 1000) : B.FOk sgF (sgT m f ii x) ∧ (sgT m f ii x).n ≤ 1000000 := ⟨⟨by kernel_rfl, by kernel_rfl, by kernel_rfl, fun i _ => sMb_ok _⟩, by show x.n ≤ 1000000; omega⟩
end
theorem sgFam : B.FamOk sgF := ⟨by show 1000 ≤ fam0; unfold fam0; omega, by show fam0 + 100000200 < gnm 0; unfold fam0 gnm; omega, by show 2 ≤ 100; omega, by show 8 < 900; omega, by show 9 < 900; omega, by show 8 ≠ 9; omega⟩
end Go.Proofs.Ytephpkfajobhmaa
