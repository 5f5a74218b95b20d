/-
  WEgDef and what follows it.
-/
import Derived.Test.YtephpkfajobhmaaWEfDef
/-
  EpochsPlay: the states of its loop.
-/
set_option linter.unusedSimpArgs false
set_option linter.unusedVariables false
namespace Go.Proofs.Ytephpkfajobhmaa
open Go.Ev
noncomputable def EEg : Env := envG Try.prog ([(29, locSP pstSpec), (31, locSP smeSpec), (61, locSP nenSpec), (63, locSP nexSpec), (64, locSP nadSpec), (62, locSP nrfSpec), (65, orSP (locSP ep0Spec) (orSP (locSP ep1Spec) (locSP ep2Spec)))] ++ memSP)
theorem EEg_ok : EnvOk EEg := envG_ok mgood ⟨locSP_ok pstSpec_ok, locSP_ok smeSpec_ok, locSP_ok nenSpec_ok, locSP_ok nexSpec_ok, locSP_ok nadSpec_ok, locSP_ok nrfSpec_ok, orSP_ok (locSP_ok ep0Spec_ok) (orSP_ok (locSP_ok ep1Spec_ok) (locSP_ok ep2Spec_ok)), memSP_ok⟩
def acSh : List CK := [.int .u8, .int .i64, .int .u8, .int .i64, .int .i64, .int .u64]
noncomputable def egF : Fam := ⟨fam0, 2, 4, [.val, .val, .val, .val], 8⟩
section
variable (m : Nat) (f : Nat → Nat → AV) (q : Nat) (h : Nat → Nat → AV)
noncomputable def egU : St := ⟨[.ss 6 1 0 m none, .top, .top, .top, .top, .ptr 7 0 0, .nils, .int .i64 0] ++ List.replicate 97 .top, ⟨[(7, .cells 2 [.ptr 3 0 0, .ptr 5 0 0]), (1, .arr 6 acSh true m f), (2, .arr 4 wSh true q (wdF (bgW h))), (3, .cells 9 (.map 4 :: lsL (msN (bgW h) q).st (msN (bgW h) q).L)), (4, .map 26 (msN (bgW h) q).M), (5, .cells 9 (.ss 4 6 0 (rsN (bgW h) q).D.n none :: lsL (rsN (bgW h) q).st (rsN (bgW h) q).L)), (6, .arr 4 wSh false (rsN (bgW h) q).D.n (wdF (rsN (bgW h) q).D.W))], 8, gnm 0, [], [], [7], false⟩⟩
noncomputable def egT (i : Nat) (x : ET) : FSt := ⟨[.ss 6 1 0 m none, .top, .top, .top, .top, .ptr 7 0 0, .ss 4 8 0 x.n none, .sym .i64 (Int.ofNat i)] ++ List.replicate 97 .top, [(7, .cells 2 [.ptr 3 0 0, .ptr 5 0 0]), (1, .arr 6 acSh true m f), (3, .cells 9 (.map 4 :: lsL x.S.st x.S.L)), (4, .map 26 x.S.M), (5, .cells 9 (.ss 4 9 0 x.R.D.n none :: lsL x.R.st x.R.L)), (9, .arr 4 wSh false x.R.D.n (wdF x.R.D.W))], x.n, fun i => eMb (x.O i), [3, 4, 5, 6, 7]⟩
noncomputable def egX (S : MS) (R : RS) : St := ⟨[.ss 6 1 0 m none, .top, .top, .top, .top, .ptr 7 0 0] ++ List.replicate 99 .top, ⟨[(7, .cells 2 [.ptr 3 0 0, .ptr 5 0 0]), (1, .arr 6 acSh true m f), (3, .cells 9 (.map 4 :: lsL S.st S.L)), (4, .map 26 S.M), (5, .cells 9 (.ss 4 9 0 R.D.n none :: lsL R.st R.L)), (9, .arr 4 wSh false R.D.n (wdF R.D.W))], 10, gnm 0, [], [], [3, 4, 5, 6, 7], false⟩⟩
noncomputable abbrev egL : Code := loopAt Try.prog 12 0
noncomputable def egLP : Prop := LoopHolds Try.prog egL (egU m f q h) (.exit 0) (egX m f (etN f h q m).S (etN f h q m).R)
end
end Go.Proofs.Ytephpkfajobhmaa

/-
  EpochsPlay: its family: members, rows.
-/
set_option linter.unusedSimpArgs false
set_option linter.unusedVariables false
namespace Go.Proofs.Ytephpkfajobhmaa
open Go.Ev
theorem egV : ∀ (j : Nat) k, egF.sh[j]? = some k → k = .val := by
  intro j k h
  match j, h with
  | 0, h => simpa [egF] using h.symm
  | 1, h => simpa [egF] using h.symm
  | 2, h => simpa [egF] using h.symm
  | 3, h => simpa [egF] using h.symm
  | j + 4, h => simp [egF] at h
theorem cellsOf {l : List AV} (h : ∃ a b c d, l = [a, b, c, d] ∧ (okV 2 a ∧ a.oneCell = true) ∧ (okV 2 b ∧ b.oneCell = true) ∧ (okV 2 c ∧ c.oneCell = true) ∧ (okV 2 d ∧ d.oneCell = true)) : ∀ (c : Nat) k, egF.sh[c]? = some k → ∃ v, nth l c = some v ∧ okV egF.q v ∧ kOk k v := by
  obtain ⟨a, b, c, d, rfl, h0, h1, h2, h3⟩ := h
  intro c k h
  have hk := egV c k h
  subst hk
  match c, h with
  | 0, _ => exact ⟨a, rfl, h0.1, h0.2⟩
  | 1, _ => exact ⟨b, rfl, h1.1, h1.2⟩
  | 2, _ => exact ⟨_, rfl, h2.1, h2.2⟩
  | 3, _ => exact ⟨d, rfl, h3.1, h3.2⟩
  | j + 4, h => simp [egF] at h
theorem objsOf {o0 o1 : AO} (h0 : okO 2 o0) (h1 : okO 2 o1) : ∀ c o, get [(0, o0), (1, o1)] c = some o → c < egF.q ∧ okO egF.q o := by
  intro c o h
  rcases get_cons h with ⟨rfl, rfl⟩ | ⟨_, h⟩
  · exact ⟨by decide, h0⟩
  · rcases get_cons h with ⟨rfl, rfl⟩ | ⟨_, h⟩
    · exact ⟨by decide, h1⟩
    · simp [Go.Ev.get] at h
theorem eMb_ok (o : EO) : MbOk egF (eMb o) := by
  obtain ⟨k, a, e, th, t2, b, mv⟩ := o
  match k with
  | 0 => exact ⟨cellsOf ⟨_, _, _, _, rfl, ⟨fun b => ⟨_, rfl⟩, rfl⟩, ⟨fun b => ⟨_, rfl⟩, rfl⟩, ⟨fun b => ⟨_, rfl⟩, rfl⟩, ⟨fun b => ⟨_, rfl⟩, rfl⟩⟩, objsOf (fun b => ⟨_, rfl⟩) (fun b => ⟨_, rfl⟩)⟩
  | 1 => exact ⟨cellsOf ⟨_, _, _, _, rfl, ⟨fun b => ⟨_, rfl⟩, rfl⟩, ⟨fun b => ⟨_, rfl⟩, rfl⟩, ⟨fun b => ⟨_, rfl⟩, rfl⟩, ⟨fun b => ⟨_, rfl⟩, rfl⟩⟩, objsOf (fun b => ⟨_, rfl⟩) (fun b => ⟨_, rfl⟩)⟩
  | k + 2 => exact ⟨cellsOf ⟨_, _, _, _, rfl, ⟨fun b => ⟨_, rfl⟩, rfl⟩, ⟨fun b => ⟨_, rfl⟩, rfl⟩, ⟨fun b => ⟨_, rfl⟩, rfl⟩, ⟨fun b => ⟨_, rfl⟩, rfl⟩⟩, objsOf (fun b => ⟨_, rfl⟩) (fun b => ⟨_, rfl⟩)⟩
theorem eMb_cells (S : MS) (o : EO) : (eMb (eoO S o)).cells = (eMb o).cells := by
  obtain ⟨k, a, e, th, t2, b, mv⟩ := o
  match k with
  | 0 => rfl
  | 1 => rfl
  | k + 2 => rfl
/-- A member's row, its blocks by names K0, K1. -/
def cellsK (k K0 K1 : Nat) : List AV := match k with
  | 0 => [.ptr K0 0 0, .nilp, .nilp, .ptr K1 0 0]
  | 1 => [.nilp, .ptr K0 0 0, .nilp, .ptr K1 0 0]
  | _ => [.nilp, .nilp, .ptr K0 0 0, .ptr K1 0 0]
theorem eg_new {c : CM} {K0 K1 : Nat} (h0 : c.same 900 K0 = true) (h1 : c.same 901 K1 = true) (o : EO) {k : Nat} (hk : cellsK k 0 1 = (eMb o).cells) (hk2 : ∀ a b, cellsK k a b = cellsK o.k a b) : ∀ (cc : Nat) kk, egF.sh[cc]? = some kk → valV c (rowsOf 4 (cellsK k K0 K1) 0 cc) (mrow 2 900 (eMb o) cc) := by
  intro cc kk h
  obtain ⟨ok, a, e, th, t2, b, mv⟩ := o
  rw [hk2]
  match ok, cc, h with
  | 0, 0, _ => exact valV_ptr h0
  | 0, 1, _ => exact valV_nilp
  | 0, 2, _ => exact valV_nilp
  | 0, 3, _ => exact valV_ptr h1
  | 1, 0, _ => exact valV_nilp
  | 1, 1, _ => exact valV_ptr h0
  | 1, 2, _ => exact valV_nilp
  | 1, 3, _ => exact valV_ptr h1
  | k + 2, 0, _ => exact valV_nilp
  | k + 2, 1, _ => exact valV_nilp
  | k + 2, 2, _ => exact valV_ptr h0
  | k + 2, 3, _ => exact valV_ptr h1
  | _, j + 4, h => simp [egF] at h
theorem eg_self {c : CM} (h0 : c.same 900 900 = true) (h1 : c.same 901 901 = true) (o : EO) : ∀ (cc : Nat) kk, egF.sh[cc]? = some kk → valV c (mrow 2 900 (eMb o) cc) (mrow 2 900 (eMb o) cc) := by
  intro cc kk h
  obtain ⟨ok, a, e, th, t2, b, mv⟩ := o
  match ok, cc, h with
  | 0, 0, _ => exact valV_ptr h0
  | 0, 1, _ => exact valV_nilp
  | 0, 2, _ => exact valV_nilp
  | 0, 3, _ => exact valV_ptr h1
  | 1, 0, _ => exact valV_nilp
  | 1, 1, _ => exact valV_ptr h0
  | 1, 2, _ => exact valV_nilp
  | 1, 3, _ => exact valV_ptr h1
  | k + 2, 0, _ => exact valV_nilp
  | k + 2, 1, _ => exact valV_nilp
  | k + 2, 2, _ => exact valV_ptr h0
  | k + 2, 3, _ => exact valV_ptr h1
  | _, j + 4, h => simp [egF] at h
def etDo2 (x : ET) (j : Nat) (o : EO) : ET := ⟨eoS x.S o, eoR x.R o, x.n, fun i => if i = j then eoO x.S o else x.O i⟩
section
variable {m : Nat} {f : Nat → Nat → AV} {ii : Nat} {x : ET}
/-- Rows behind a step of one operation. -/
theorem eg_do {c : CM} (hc : c.hi = egF.b0) (h0 : c.same 900 900 = true) (h1 : c.same 901 901 = true) {j : Nat} {o : EO} (ho : x.O j = o) : ∀ i, i < x.n → rowV c egF.sh 0 (lrow egF.b0 2 (egT m f ii x).M j i) (lrow egF.b0 2 (egT m f (ii + 1) (etDo2 x j o)).M j i) := by
  refine fam_rows (F := egF) (n := 0) egV (by rw [hc]; exact Nat.le_refl _) (M := (egT m f ii x).M) (fun i hi hne => ⟨eMb_ok _, ?_, fun cc => lrow_ne hne⟩) (fun hj cc k hk => ?_)
  · show eMb (if i = j then _ else x.O i) = eMb (x.O i); rw [if_neg hne]
  · have e1 : (egT m f (ii + 1) (etDo2 x j o)).M j = eMb (eoO x.S o) := by show eMb (if j = j then _ else _) = _; rw [if_pos rfl]
    have e2 : (egT m f ii x).M j = eMb o := by show eMb (x.O j) = _; rw [ho]
    rw [e1]
    refine valV_eq (lrow_j e2) ?_
    have e3 : mrow egF.q 900 (eMb (eoO x.S o)) cc = mrow egF.q 900 (eMb o) cc := by unfold mrow; rw [eMb_cells]
    rw [e3]
    exact eg_self h0 h1 o cc k hk
/-- .. where nothing is done. -/
theorem eg_no {c : CM} (hc : c.hi = egF.b0) {j : Nat} (hj : x.n ≤ j) {y : ET} (hy : y.n = x.n) (hO : ∀ i, y.O i = x.O i) : ∀ i, i < y.n → rowV c egF.sh 0 (lrow egF.b0 2 (egT m f ii x).M j i) (lrow egF.b0 2 (egT m f (ii + 1) y).M j i) := by
  refine fam_rows (F := egF) (n := 0) egV (by rw [hc]; exact Nat.le_refl _) (M := (egT m f ii x).M) (fun i hi hne => ⟨eMb_ok _, ?_, fun cc => lrow_ne hne⟩) (fun h cc k hk => ?_)
  · show eMb (y.O i) = eMb (x.O i); rw [hO]
  · omega
/-- .. behind a new one. -/
theorem eg_add {c : CM} (hc : c.hi = egF.b0) {K0 K1 k : Nat} (h0 : c.same 900 K0 = true) (h1 : c.same 901 K1 = true) (o : EO) (hk : cellsK k 0 1 = (eMb o).cells) (hk2 : ∀ a b, cellsK k a b = cellsK o.k a b) : ∀ i, i < x.n + 1 → rowV c egF.sh 0 (fun j => if i < x.n then lrow egF.b0 2 (egT m f ii x).M x.n (0 + i) j else rowsOf 4 (cellsK k K0 K1) (i - x.n) j) (lrow egF.b0 2 (egT m f (ii + 1) (etAdd x o)).M x.n i) := by
  refine fam_rows (F := egF) (n := 0) egV (by rw [hc]; exact Nat.le_refl _) (M := (egT m f ii x).M) (src := fun i j => if i < x.n then lrow egF.b0 2 (egT m f ii x).M x.n (0 + i) j else rowsOf 4 (cellsK k K0 K1) (i - x.n) j) (fun i hi hne => ⟨eMb_ok _, ?_, fun cc => ?_⟩) (fun hj cc k hk => ?_)
  · show eMb (if i = x.n then _ else x.O i) = eMb (x.O i); rw [if_neg hne]
  · show (if i < x.n then _ else _) = _
    rw [if_pos (by omega), Nat.zero_add]
    exact lrow_ne hne
  · have e1 : (egT m f (ii + 1) (etAdd x o)).M x.n = eMb o := by show eMb (if x.n = x.n then _ else _) = _; rw [if_pos rfl]
    rw [e1]
    show valV c (if x.n < x.n then _ else _) _
    rw [if_neg (Nat.lt_irrefl _), Nat.sub_self]
    exact eg_new h0 h1 o (by assumption) hk2 cc _ hk
theorem egOk (hn : x.n ≤ 1000) : FOk egF (egT m f ii x) ∧ (egT m f ii x).n ≤ 1000000 := ⟨⟨by kernel_rfl, by kernel_rfl, fun i _ => eMb_ok _⟩, by show x.n ≤ 1000000; omega⟩
end
theorem egFam : FamOk egF := ⟨by show 1000 ≤ fam0; unfold fam0; omega, by show fam0 + 100000200 < gnm 0; unfold fam0 gnm; omega, by show 2 ≤ 100; omega, by show 8 < 900; omega, rfl⟩
end Go.Proofs.Ytephpkfajobhmaa

/-
  EpochsPlay: its loop: definitions.
-/
set_option linter.unusedSimpArgs false
set_option linter.unusedVariables false
namespace Go.Proofs.Ytephpkfajobhmaa
open Go.Ev
def ltAll : List (Nat × AO) → Bool
  | [] => true
  | (n, _) :: r => match Nat.blt n 900 with
    | true => ltAll r
    | false => false
theorem ltAll_get : ∀ (l : List (Nat × AO)), ltAll l = true → ∀ n o, get l n = some o → n < 900
  | [], _, n, o, h => by simp [Go.Ev.get] at h
  | (k, p) :: r, hl, n, o, h => by
    simp only [ltAll] at hl
    split at hl
    · rename_i hk
      rcases get_cons h with ⟨rfl, rfl⟩ | ⟨_, h⟩
      · simpa [Nat.blt_eq] using hk
      · exact ltAll_get r hl n o h
    · cases hl
theorem nl_ln (w : Int) : nL 0 w = ln0 (eNew 0 w).at_ := by
  show inT w = ln0 (inT w)
  rcases inT_r w with e | e <;> rw [e] <;> rfl
theorem eqF {a b : Int} (h : ¬ a = b) : (a == b) = false := by simpa using h
theorem eqT {a b : Int} (h : a = b) : (a == b) = true := by simpa using h


end Go.Proofs.Ytephpkfajobhmaa
