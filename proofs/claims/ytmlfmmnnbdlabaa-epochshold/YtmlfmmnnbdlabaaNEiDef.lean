/-
  EpochsHold: a step of a thread: definitions.
-/
import Derived.Test.YtmlfmmnnbdlabaaNEjDef
set_option linter.unusedSimpArgs false
set_option linter.unusedVariables false
namespace Go.Proofs.Ytmlfmmnnbdlabaa
open Go.Ev
theorem hdMb_ok (k : Nat) (o : HO) : MbOk hdF (hdMb k o) := by
  have q9 : okV 1 (.ptr 0 0 0) := okV_ptr (by decide)
  obtain ⟨t, i, a, e, p⟩ := o
  have val : ∀ (c : Nat) (kk : CK) (v2 v3 v4 : AV), hdSh[c]? = some kk → (okV 1 v2 ∧ v2.oneCell = true) → (okV 1 v3 ∧ v3.oneCell = true) → (okV 1 v4 ∧ v4.oneCell = true) → ∃ v, nth [.symb i, .sym .u64 a, v2, v3, v4] c = some v ∧ okV 1 v ∧ kOk kk v := by
    intro c kk v2 v3 v4 hk h2 h3 h4
    match c, hk with
    | 0, hk => cases hk; exact ⟨_, rfl, fun b => ⟨_, rfl⟩, i, rfl⟩
    | 1, hk => cases hk; exact ⟨_, rfl, fun b => ⟨_, rfl⟩, a, rfl⟩
    | 2, hk => cases hk; exact ⟨_, rfl, h2.1, h2.2⟩
    | 3, hk => cases hk; exact ⟨_, rfl, h3.1, h3.2⟩
    | 4, hk => cases hk; exact ⟨_, rfl, h4.1, h4.2⟩
    | c + 5, hk => simp [hdSh] at hk
  have one : ∀ (o1 : AO) c o, get [(0, o1)] c = some o → okO 1 o1 → c < 1 ∧ okO 1 o := by
    intro o1 c o h ho
    rcases get_cons h with ⟨rfl, rfl⟩ | ⟨_, h⟩
    · exact ⟨by omega, ho⟩
    · simp [Go.Ev.get] at h
  have n1 : okV 1 .nilp ∧ AV.nilp.oneCell = true := ⟨okV_nilp, rfl⟩
  have n9 : okV 1 (.ptr 0 0 0) ∧ (AV.ptr 0 0 0).oneCell = true := ⟨q9, rfl⟩
  match t with
  | 0 => exact ⟨fun c kk hk => val c kk _ _ _ hk n1 n1 n1, fun c o h => by simp [hdMb, Go.Ev.get] at h⟩
  | 1 => exact ⟨fun c kk hk => val c kk _ _ _ hk n9 n1 n1, fun c o h => one _ c o h (fun b => ⟨_, rfl⟩)⟩
  | 2 => exact ⟨fun c kk hk => val c kk _ _ _ hk n1 n1 n9, fun c o h => one _ c o h (fun b => ⟨_, rfl⟩)⟩
  | 3 => exact ⟨fun c kk hk => val c kk _ _ _ hk n1 n1 n9, fun c o h => one _ c o h (fun b => ⟨_, rfl⟩)⟩
  | t + 4 => exact ⟨fun c kk hk => val c kk _ _ _ hk n1 n1 n9, fun c o h => one _ c o h (fun b => ⟨_, rfl⟩)⟩
theorem hdG (m : Nat) (f : Nat → Nat → AV) (ii : Nat) (x : HX) : FGood hdF (hdT m f ii x) := ⟨⟨by kernel_rfl, by kernel_rfl, fun i _ => hdMb_ok i _⟩, by show 8 ≤ 1000000; omega⟩
theorem hdG1 (m : Nat) (f : Nat → Nat → AV) (ii : Nat) (x : HX) : FGood hdF (hdT1 m f ii x) := ⟨⟨by kernel_rfl, by kernel_rfl, fun i _ => hdMb_ok i _⟩, by show 8 ≤ 1000000; omega⟩
theorem hdG2 (m : Nat) (f : Nat → Nat → AV) (ii : Nat) (x : HX) : FGood hdF (hdT2 m f ii x) := ⟨⟨by kernel_rfl, by kernel_rfl, fun i _ => hdMb_ok i _⟩, by show 8 ≤ 1000000; omega⟩
theorem hdFam : FamOk hdF := ⟨by show 1000 ≤ fam0; unfold fam0; omega, by show fam0 + 100000200 < gnm 0; unfold fam0 gnm; omega, by show 1 ≤ 100; omega, by show 5 < 900; omega, rfl⟩
theorem hdSOk {m : Nat} {f : Nat → Nat → AV} {e0 : Int} : SOk (hdU m f e0) := ⟨by show 5 ≤ 900; omega, rfl, fun n o hg => ltAll_get _ rfl n o hg⟩
theorem hd_rows {c : CM} (hc : c.hi ≤ fam0) {x y : HX} {j : Nat} {src : Nat → Nat → AV} (hne : ∀ i, i ≠ j → y.O i = x.O i) (hs : ∀ i, i ≠ j → ∀ cc, src i cc = lrow fam0 1 (fun k => hdMb k (x.O k)) j i cc)
    (hj : rowV c hdSh 0 (src j) (fun cc => mrow 1 900 (hdMb j (y.O j)) cc)) : ∀ i, i < 8 → rowV c hdSh 0 (src i) (lrow fam0 1 (fun k => hdMb k (y.O k)) j i) :=
  fam_rowsK (F := hdF) hc (M := fun k => hdMb k (x.O k)) (fun i _ hi => ⟨hdMb_ok i _, by show hdMb i (y.O i) = _; rw [hne i hi], fun cc => (hs i hi cc).trans (lrow_ne hi)⟩) (fun _ => hj)


end Go.Proofs.Ytmlfmmnnbdlabaa
