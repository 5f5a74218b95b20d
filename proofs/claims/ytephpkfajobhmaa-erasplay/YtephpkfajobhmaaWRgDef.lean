/-
  WRgDef and what follows it.
-/
import Derived.Test.YtephpkfajobhmaaWRfDef
/-
  ErasPlay: the states of its loop, its members, their rows.
-/
set_option linter.unusedSimpArgs false
set_option linter.unusedVariables false
namespace Go.Proofs.Ytephpkfajobhmaa
open Go.Ev
noncomputable def ERg : Env := envG Try.prog ([(29, locSP pstSpec), (31, locSP smeSpec), (68, locSP rn0Spec), (69, locSP rn1Spec), (70, locSP rn2Spec), (43, locSP rn3Spec), (67, locSP rnrSpec), (71, orSP (locSP er0Spec) (orSP (locSP er1Spec) (orSP (locSP er2Spec) (locSP er3Spec))))] ++ memSP)
theorem ERg_ok : EnvOk ERg := envG_ok mgood ⟨locSP_ok pstSpec_ok, locSP_ok smeSpec_ok, locSP_ok rn0Spec_ok, locSP_ok rn1Spec_ok, locSP_ok rn2Spec_ok, locSP_ok rn3Spec_ok, locSP_ok rnrSpec_ok, orSP_ok (locSP_ok er0Spec_ok) (orSP_ok (locSP_ok er1Spec_ok) (orSP_ok (locSP_ok er2Spec_ok) (locSP_ok er3Spec_ok))), memSP_ok⟩
def arSh : List CK := [.int .u8, .int .i64, .int .u64, .int .u8, .int .i64, .int .i64, .int .u64]
noncomputable def rgF : Fam := ⟨fam0, 2, 5, [.val, .val, .val, .val, .val], 8⟩
section
variable (m : Nat) (f : Nat → Nat → AV) (q : Nat) (h : Nat → Nat → AV)
noncomputable def rgU : St := ⟨[.ss 7 1 0 m none, .top, .top, .top, .top, .ptr 7 0 0, .nils, .int .i64 0] ++ List.replicate 98 .top, ⟨[(7, .cells 2 [.ptr 3 0 0, .ptr 5 0 0]), (1, .arr 7 arSh true m f), (2, .arr 4 wSh true q (wdF (bgW h))), (3, .cells 9 (.map 4 :: lsL (msN (bgW h) q).st (msN (bgW h) q).L)), (4, .map 26 (msN (bgW h) q).M), (5, .cells 9 (.ss 4 6 0 (rsN (bgW h) q).D.n none :: lsL (rsN (bgW h) q).st (rsN (bgW h) q).L)), (6, .arr 4 wSh false (rsN (bgW h) q).D.n (wdF (rsN (bgW h) q).D.W))], 8, gnm 0, [], [], [7], false⟩⟩
noncomputable def rgT (i : Nat) (x : RT) : FSt := ⟨[.ss 7 1 0 m none, .top, .top, .top, .top, .ptr 7 0 0, .ss 5 8 0 x.n none, .sym .i64 (Int.ofNat i)] ++ List.replicate 98 .top, [(7, .cells 2 [.ptr 3 0 0, .ptr 5 0 0]), (1, .arr 7 arSh true m f), (3, .cells 9 (.map 4 :: lsL x.S.st x.S.L)), (4, .map 26 x.S.M), (5, .cells 9 (.ss 4 9 0 x.R.D.n none :: lsL x.R.st x.R.L)), (9, .arr 4 wSh false x.R.D.n (wdF x.R.D.W))], x.n, fun i => rMb (x.O i), [3, 4, 5, 6, 7]⟩
noncomputable def rgX (S : MS) (R : RS) : St := ⟨[.ss 7 1 0 m none, .top, .top, .top, .top, .ptr 7 0 0] ++ List.replicate 100 .top, ⟨[(7, .cells 2 [.ptr 3 0 0, .ptr 5 0 0]), (1, .arr 7 arSh true m f), (3, .cells 9 (.map 4 :: lsL S.st S.L)), (4, .map 26 S.M), (5, .cells 9 (.ss 4 9 0 R.D.n none :: lsL R.st R.L)), (9, .arr 4 wSh false R.D.n (wdF R.D.W))], 10, gnm 0, [], [], [3, 4, 5, 6, 7], false⟩⟩
noncomputable abbrev rgL : Code := loopAt Try.prog 13 0
noncomputable def rgLP : Prop := LoopHolds Try.prog rgL (rgU m f q h) (.exit 0) (rgX m f (rtN f h q m).S (rtN f h q m).R)
end
theorem rgV : ∀ (j : Nat) k, rgF.sh[j]? = some k → k = .val := allVal (by intro k hk; simpa [rgF] using hk)
theorem rgC {c : Nat} {k : CK} (h : rgF.sh[c]? = some k) : c = 0 ∨ c = 1 ∨ c = 2 ∨ c = 3 ∨ c = 4 := by
  have := (List.getElem?_eq_some_iff.1 h).1
  have e : rgF.sh.length = 5 := rfl
  omega
theorem rgCells (k : Nat) : ∀ (c : Nat) kk, rgF.sh[c]? = some kk → ∃ v, nth (rCells k 0 1) c = some v ∧ okV rgF.q v ∧ kOk kk v := by
  intro c kk h
  have hk := rgV c kk h
  subst hk
  match k with
  | 0 => rcases rgC h with rfl | rfl | rfl | rfl | rfl <;> exact ⟨_, rfl, fun b => ⟨_, rfl⟩, rfl⟩
  | 1 => rcases rgC h with rfl | rfl | rfl | rfl | rfl <;> exact ⟨_, rfl, fun b => ⟨_, rfl⟩, rfl⟩
  | 2 => rcases rgC h with rfl | rfl | rfl | rfl | rfl <;> exact ⟨_, rfl, fun b => ⟨_, rfl⟩, rfl⟩
  | k + 3 => rcases rgC h with rfl | rfl | rfl | rfl | rfl <;> exact ⟨_, rfl, fun b => ⟨_, rfl⟩, rfl⟩
theorem rgObjs {o0 o1 : AO} (h0 : okO 2 o0) (h1 : okO 2 o1) : ∀ c o, get [(0, o0), (1, o1)] c = some o → c < rgF.q ∧ okO rgF.q o := by
  intro c o h
  rcases get_cons h with ⟨rfl, rfl⟩ | ⟨_, h⟩
  · exact ⟨by decide, h0⟩
  · rcases get_cons h with ⟨rfl, rfl⟩ | ⟨_, h⟩
    · exact ⟨by decide, h1⟩
    · simp [Go.Ev.get] at h
theorem rMb_ok (o : RO) : MbOk rgF (rMb o) := by
  obtain ⟨k, av, th, hi, nw, e, h2, dn⟩ := o
  refine ⟨rgCells k, ?_⟩
  match k with
  | 0 => exact rgObjs (fun b => ⟨_, rfl⟩) (fun b => ⟨_, rfl⟩)
  | 1 => exact rgObjs (fun b => ⟨_, rfl⟩) (fun b => ⟨_, rfl⟩)
  | 2 => exact rgObjs (fun b => ⟨_, rfl⟩) (fun b => ⟨_, rfl⟩)
  | k + 3 => exact rgObjs (fun b => ⟨_, rfl⟩) (fun b => ⟨_, rfl⟩)
theorem rMb_cells (S : MS) (o : RO) : (rMb (roO S o)).cells = (rMb o).cells := by
  obtain ⟨k, av, th, hi, nw, e, h2, dn⟩ := o
  match k with
  | 0 => rfl
  | 1 => rfl
  | 2 => rfl
  | k + 3 => rfl
theorem rg_new {c : CM} {K0 K1 : Nat} (h0 : c.same 900 K0 = true) (h1 : c.same 901 K1 = true) (k : Nat) (ob : List (Nat × AO)) : ∀ (cc : Nat) kk, rgF.sh[cc]? = some kk → valV c (rowsOf 5 (rCells k K0 K1) 0 cc) (mrow 2 900 ⟨rCells k 0 1, ob⟩ cc) := by
  intro cc kk h
  match k with
  | 0 => rcases rgC h with rfl | rfl | rfl | rfl | rfl; · exact valV_ptr h0
         · exact valV_nilp
         · exact valV_nilp
         · exact valV_nilp
         · exact valV_ptr h1
  | 1 => rcases rgC h with rfl | rfl | rfl | rfl | rfl; · exact valV_nilp
         · exact valV_ptr h0
         · exact valV_nilp
         · exact valV_nilp
         · exact valV_ptr h1
  | 2 => rcases rgC h with rfl | rfl | rfl | rfl | rfl; · exact valV_nilp
         · exact valV_nilp
         · exact valV_ptr h0
         · exact valV_nilp
         · exact valV_ptr h1
  | k + 3 => rcases rgC h with rfl | rfl | rfl | rfl | rfl; · exact valV_nilp
             · exact valV_nilp
             · exact valV_nilp
             · exact valV_ptr h0
             · exact valV_ptr h1
section
variable {m : Nat} {f : Nat → Nat → AV} {ii : Nat} {x : RT}
theorem rg_do {c : CM} (hc : c.hi = rgF.b0) (h0 : c.same 900 900 = true) (h1 : c.same 901 901 = true) {j : Nat} {o : RO} (ho : x.O j = o) : ∀ i, i < x.n → rowV c rgF.sh 0 (lrow rgF.b0 2 (rgT m f ii x).M j i) (lrow rgF.b0 2 (rgT m f (ii + 1) (rtDo2 x j o)).M j i) := by
  refine fam_rows (F := rgF) (n := 0) rgV (by rw [hc]; exact Nat.le_refl _) (M := (rgT m f ii x).M) (fun i hi hne => ⟨rMb_ok _, ?_, fun cc => lrow_ne hne⟩) (fun hj cc k hk => ?_)
  · show rMb (if i = j then _ else x.O i) = rMb (x.O i); rw [if_neg hne]
  · have e1 : (rgT m f (ii + 1) (rtDo2 x j o)).M j = rMb (roO x.S o) := by show rMb (if j = j then _ else _) = _; rw [if_pos rfl]
    have e2 : (rgT m f ii x).M j = rMb o := by show rMb (x.O j) = _; rw [ho]
    rw [e1]
    refine valV_eq (lrow_j e2) ?_
    have e3 : mrow rgF.q 900 (rMb (roO x.S o)) cc = mrow rgF.q 900 (rMb o) cc := by unfold mrow; rw [rMb_cells]
    rw [e3]
    have h := rg_new h0 h1 o.k (rObjs o) cc k hk
    refine valV_eq ?_ h
    match o with
    | ⟨k, av, th, hi, nw, e, h2, dn⟩ =>
      match k with
      | 0 => rcases rgC hk with rfl | rfl | rfl | rfl | rfl <;> rfl
      | 1 => rcases rgC hk with rfl | rfl | rfl | rfl | rfl <;> rfl
      | 2 => rcases rgC hk with rfl | rfl | rfl | rfl | rfl <;> rfl
      | k + 3 => rcases rgC hk with rfl | rfl | rfl | rfl | rfl <;> rfl
theorem rg_no {c : CM} (hc : c.hi = rgF.b0) {j : Nat} (hj : x.n ≤ j) {y : RT} (hy : y.n = x.n) (hO : ∀ i, y.O i = x.O i) : ∀ i, i < y.n → rowV c rgF.sh 0 (lrow rgF.b0 2 (rgT m f ii x).M j i) (lrow rgF.b0 2 (rgT m f (ii + 1) y).M j i) := by
  refine fam_rows (F := rgF) (n := 0) rgV (by rw [hc]; exact Nat.le_refl _) (M := (rgT m f ii x).M) (fun i hi hne => ⟨rMb_ok _, ?_, fun cc => lrow_ne hne⟩) (fun h cc k hk => ?_)
  · show rMb (y.O i) = rMb (x.O i); rw [hO]
  · omega
theorem rg_add {c : CM} (hc : c.hi = rgF.b0) {K0 K1 k : Nat} (h0 : c.same 900 K0 = true) (h1 : c.same 901 K1 = true) (o : RO) (hk : rMb o = ⟨rCells k 0 1, rObjs o⟩) : ∀ i, i < x.n + 1 → rowV c rgF.sh 0 (fun j => if i < x.n then lrow rgF.b0 2 (rgT m f ii x).M x.n (0 + i) j else rowsOf 5 (rCells k K0 K1) (i - x.n) j) (lrow rgF.b0 2 (rgT m f (ii + 1) (rtAdd x o)).M x.n i) := by
  refine fam_rows (F := rgF) (n := 0) rgV (by rw [hc]; exact Nat.le_refl _) (M := (rgT m f ii x).M) (src := fun i j => if i < x.n then lrow rgF.b0 2 (rgT m f ii x).M x.n (0 + i) j else rowsOf 5 (rCells k K0 K1) (i - x.n) j) (fun i hi hne => ⟨rMb_ok _, ?_, fun cc => ?_⟩) (fun hj cc kk hkk => ?_)
  · show rMb (if i = x.n then _ else x.O i) = rMb (x.O i); rw [if_neg hne]
  · show (if i < x.n then _ else _) = _
    rw [if_pos (by omega), Nat.zero_add]
    exact lrow_ne hne
  · have e1 : (rgT m f (ii + 1) (rtAdd x o)).M x.n = rMb o := by show rMb (if x.n = x.n then _ else _) = _; rw [if_pos rfl]
    rw [e1, hk]
    show valV c (if x.n < x.n then _ else _) _
    rw [if_neg (Nat.lt_irrefl _), Nat.sub_self]
    exact rg_new h0 h1 k _ cc _ hkk
theorem rgOk (hn : x.n ≤ 1000) : FOk rgF (rgT m f ii x) ∧ (rgT m f ii x).n ≤ 1000000 := ⟨⟨by kernel_rfl, by kernel_rfl, fun i _ => rMb_ok _⟩, by show x.n ≤ 1000000; omega⟩
end
theorem rgFam : FamOk rgF := ⟨by show 1000 ≤ fam0; unfold fam0; omega, by show fam0 + 100000200 < gnm 0; unfold fam0 gnm; omega, by show 2 ≤ 100; omega, by show 8 < 900; omega, rfl⟩
end Go.Proofs.Ytephpkfajobhmaa

/-
  ErasPlay: its loop: definitions.
-/
set_option linter.unusedSimpArgs false
set_option linter.unusedVariables false
namespace Go.Proofs.Ytephpkfajobhmaa
open Go.Ev
theorem kd_nn (a : Int) (h : 0 ≤ a ∧ a < 256) : 0 ≤ (IntKind.i64.wrap a).tmod 10 ∧ (IntKind.i64.wrap a).tmod 10 < 10 := by
  rw [i64w (by omega) (by omega), Int.tmod_eq_emod_of_nonneg h.1]
  omega


end Go.Proofs.Ytephpkfajobhmaa
