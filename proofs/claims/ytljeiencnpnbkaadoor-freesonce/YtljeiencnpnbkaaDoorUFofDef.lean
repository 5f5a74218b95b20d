/-
  UFofDef and what follows it.
-/
import Derived.Test.YtljeiencnpnbkaaDoorUFoa
import Derived.Test.YtljeiencnpnbkaaDoorEvFx
import Derived.Test.YtljeiencnpnbkaaDoorEvFam
import Derived.Test.YtljeiencnpnbkaaDoorEvBits
/-
  FreesOnce: the threads as a family.
-/
set_option linter.unusedSimpArgs false
set_option linter.unusedVariables false
namespace Go.Proofs.YtljeiencnpnbkaaDoor
open Go.Ev
/-- A thread, as the walk sees it: t: 0 idle, 1 a Pop, 2 a Push, 3 idle, with nothing ever held. -/
structure FW where
  t : Nat
  of : Nat
  len : Nat
  E : Nat → Int
  p : PO
  u : UO
def foSh : List CK := [.val, .val, .val]
def foH (o : FW) : AO := .arr 1 [.int .i64] false (o.of + o.len) (LF o.E)
def foMb (o : FW) : Mb := match o.t with
  | 0 => ⟨[.ss 1 0 o.of o.len none, .nilp, .nilp], [(0, foH o)]⟩
  | 1 => ⟨[.ss 1 0 o.of o.len none, .ptr 1 0 0, .nilp], [(0, foH o), (1, .cells 5 [.sym .i64 o.p.ln, .sym .u64 o.p.h, .sym .i64 o.p.nx, .sym .i64 o.p.sl, .symb o.p.ok])]⟩
  | 2 => ⟨[.ss 1 0 o.of o.len none, .nilp, .ptr 1 0 0], [(0, foH o), (1, .cells 3 [.sym .i64 o.u.ln, .sym .u64 o.u.h, .sym .i64 o.u.sl])]⟩
  | _ => ⟨[.nils, .nilp, .nilp], []⟩
noncomputable def foF : Fam := ⟨fam0, 2, 3, foSh, 5⟩
theorem foMb_ok (o : FW) : MbOk foF (foMb o) := by
  have q9 : okV 2 (.ptr 1 0 0) := okV_ptr (by decide)
  have qs : okV 2 (.ss 1 0 o.of o.len none) := fun b => ⟨_, rfl⟩
  have val : ∀ (c : Nat) (kk : CK) (v1 v2 v3 : AV), foSh[c]? = some kk → (okV 2 v1 ∧ v1.oneCell = true) → (okV 2 v2 ∧ v2.oneCell = true) → (okV 2 v3 ∧ v3.oneCell = true) → ∃ v, nth [v1, v2, v3] c = some v ∧ okV 2 v ∧ kOk kk v := by
    intro c kk v1 v2 v3 hk h1 h2 h3
    match c, hk with
    | 0, hk => cases hk; exact ⟨_, rfl, h1.1, h1.2⟩
    | 1, hk => cases hk; exact ⟨_, rfl, h2.1, h2.2⟩
    | 2, hk => cases hk; exact ⟨_, rfl, h3.1, h3.2⟩
    | c + 3, hk => simp [foSh] at hk
  have two : ∀ (o1 o2 : AO) c o, get [(0, o1), (1, o2)] c = some o → okO 2 o1 → okO 2 o2 → c < 2 ∧ okO 2 o := by
    intro o1 o2 c o h h1 h2
    rcases get_cons h with ⟨rfl, rfl⟩ | ⟨_, h⟩
    · exact ⟨by omega, h1⟩
    · rcases get_cons h with ⟨rfl, rfl⟩ | ⟨_, h⟩
      · exact ⟨by omega, h2⟩
      · simp [Go.Ev.get] at h
  have one : ∀ (o1 : AO) c o, get [(0, o1)] c = some o → okO 2 o1 → c < 2 ∧ okO 2 o := by
    intro o1 c o h ho
    rcases get_cons h with ⟨rfl, rfl⟩ | ⟨_, h⟩
    · exact ⟨by omega, ho⟩
    · simp [Go.Ev.get] at h
  have n1 : okV 2 .nilp ∧ AV.nilp.oneCell = true := ⟨okV_nilp, rfl⟩
  have n0 : okV 2 .nils ∧ AV.nils.oneCell = true := ⟨fun b => ⟨_, rfl⟩, rfl⟩
  have n9 : okV 2 (.ptr 1 0 0) ∧ (AV.ptr 1 0 0).oneCell = true := ⟨q9, rfl⟩
  have ns : okV 2 (.ss 1 0 o.of o.len none) ∧ (AV.ss 1 0 o.of o.len none).oneCell = true := ⟨qs, rfl⟩
  obtain ⟨t, of, len, E, p, u⟩ := o
  match t with
  | 0 => exact ⟨fun c kk hk => val c kk _ _ _ hk ns n1 n1, fun c o h => one _ c o h (fun b => ⟨_, rfl⟩)⟩
  | 1 => exact ⟨fun c kk hk => val c kk _ _ _ hk ns n9 n1, fun c o h => two _ _ c o h (fun b => ⟨_, rfl⟩) (fun b => ⟨_, rfl⟩)⟩
  | 2 => exact ⟨fun c kk hk => val c kk _ _ _ hk ns n1 n9, fun c o h => two _ _ c o h (fun b => ⟨_, rfl⟩) (fun b => ⟨_, rfl⟩)⟩
  | t + 3 => exact ⟨fun c kk hk => val c kk _ _ _ hk n0 n1 n1, fun c o h => by simp [foMb, Go.Ev.get] at h⟩
theorem foFam : FamOk foF := ⟨by show 1000 ≤ fam0; unfold fam0; omega, by show fam0 + 100000200 < gnm 0; unfold fam0 gnm; omega, by show 2 ≤ 100; omega, by show 5 < 900; omega, rfl⟩
end Go.Proofs.YtljeiencnpnbkaaDoor

/-
  FreesOnce: apart over the family: definitions.
-/
set_option linter.unusedSimpArgs false
set_option linter.unusedVariables false
namespace Go.Proofs.YtljeiencnpnbkaaDoor
open Go.Ev
noncomputable def foU (m : Nat) (f : Nat → Nat → AV) (n : Nat) : St := ⟨[.top, .ss 1 1 0 m none, .top, .top, .top, .sym .i64 (Int.ofNat n), .ptr 3 0 0, .top, .ss 3 5 0 6 (some 6)] ++ List.replicate 161 .top, ⟨[(5, .cells 3 (repeatL [.nils, .nilp, .nilp] 6)), (gnm 0, tabAO tab), (3, .cells 9 (.map 2 :: lsL (fillS n).st (fillS n).L)), (2, .map 110 (fillS n).M), (1, .arr 1 [.int .u8] true m f)], 6, gnm 0, [], [], [3, 2], false⟩⟩
noncomputable def fagS (m : Nat) (f : Nat → Nat → AV) (n : Nat) (S : MS) (T : Nat → FW) (a : Nat) (B : Nat → Bool) : FSt := ⟨[.ss 3 5 0 6 (some 6), .sym .i64 (Int.ofNat n), .top, .top, .bool false, .ss 1 6 0 n (some n), .sym .i64 (Int.ofNat a)] ++ List.replicate 44 .top, [(6, .arr 1 [.bool] false n (BF B)), (gnm 0, tabAO tab), (3, .cells 9 (.map 2 :: lsL S.st S.L)), (2, .map 110 S.M), (1, .arr 1 [.int .u8] true m f)], 6, fun k => foMb (T k), [6, 5, 3, 2]⟩
noncomputable abbrev fagL : Code := loopAt Tryd.prog 45 0
theorem foGood {m : Nat} {f : Nat → Nat → AV} {n : Nat} {S : MS} {T : Nat → FW} {a : Nat} {B : Nat → Bool} : FGood foF (fagS m f n S T a B) := ⟨⟨by kernel_rfl, by kernel_rfl, fun i _ => foMb_ok _⟩, by show 6 ≤ 1000000; omega⟩
theorem foSOk {m : Nat} {f : Nat → Nat → AV} {n : Nat} : SOk (foU m f n) := ⟨by show 6 ≤ 900; omega, rfl, fun k o hg => ltAll_get _ rfl k o hg⟩
theorem valV_ss {c : CM} {wd k n o l : Nat} {cap : Option Nat} (h : c.same n k = true) : valV c (.ss wd k o l cap) (.ss wd n o l cap) := ⟨rfl, fun ρ x hx => by
  simp only [den] at hx ⊢
  rw [CM.same_ren h]; exact hx⟩
end Go.Proofs.YtljeiencnpnbkaaDoor

/-
  FreesOnce: apart over the family: definitions.
-/
set_option linter.unusedSimpArgs false
set_option linter.unusedVariables false
namespace Go.Proofs.YtljeiencnpnbkaaDoor
open Go.Ev


end Go.Proofs.YtljeiencnpnbkaaDoor
