/-
  SnapsStill: definitions.
-/
import Derived.Test.YtmlfmmnnbdlabaaNSp
import Derived.Test.YtmlfmmnnbdlabaaEvDropK
import Derived.Test.YtmlfmmnnbdlabaaNLy
set_option linter.unusedSimpArgs false
set_option linter.unusedVariables false
namespace Go.Proofs.Ytmlfmmnnbdlabaa
open Go.Ev
noncomputable def ssX (n : Nat) (g : Nat → Nat → AV) (b : Int) : MS := layN g (mStore ms0 5 0 0 (IntKind.u64.wrap (IntKind.i64.wrap b))) n
def ssN (b : Int) : Int := IntKind.i64.wrap (4 * if 4 < IntKind.i64.wrap b then 4 else IntKind.i64.wrap b)
noncomputable def ssY (n : Nat) (g : Nat → Nat → AV) (b : Int) : MS := ⟨(ssX n g b).M, (skM (ssX n g b)).st, (skM (ssX n g b)).L⟩
noncomputable def Est : Env := envG Try.prog ((29, rawSP l14Spec) :: (30, locSP laySpec) :: (44, locSP wdsSpec) :: (45, takenSP) :: (42, locSP ssnSpec) :: memSpecs)
theorem Est_ok : EnvOk Est := envG_ok mgood ⟨rawSP_ok l14Spec_ok, locSP_ok laySpec_ok, locSP_ok wdsSpec_ok, takenSP_ok, locSP_ok ssnSpec_ok, memSpecs_ok⟩
noncomputable def stRun (n : Nat) (g : Nat → Nat → AV) (b : Int) (hh : List Hint) : Option (AV × List Prop × Bool) := (callF Est 5000 8 [.ss 10 1 0 n none, .sym .u8 b] ⟨[(1, .arr 10 tSh true n g)], 2, gnm 0, hh, [], [], false⟩).map (fun x => (x.1, x.2.ob, noneIn [(1, .arr 10 tSh true n g)] x.2.wr))
theorem wlF_len {f : List Int → Option Int} {n : Nat} (h : FinM f n) : (wlF f).length ≤ n := by
  obtain ⟨b, hb, hm⟩ := h
  by_cases hex : ∃ l, IsWl f l
  · obtain ⟨l, hl⟩ := hex
    rw [wlF_eq hl]
    have := nodup_len (l.map (fun x => key x.1.1 x.1.2.1 x.1.2.2)) b (List.pairwise_map.2 (hl.sorted.imp (fun {x y} h e => by
      have e1 : x.1.1 = y.1.1 ∧ x.1.2.1 = y.1.2.1 ∧ x.1.2.2 = y.1.2.2 := by simpa [key] using e
      unfold ltK at h; omega))) (fun k hk => by
      obtain ⟨⟨k3, v⟩, hx, rfl⟩ := List.mem_map.1 hk
      obtain ⟨q1, q2⟩ := (hl.mem k3 v).1 hx
      cases hf : f (key k3.1 k3.2.1 k3.2.2) with
      | none => unfold mget at q1; rw [hf] at q1; exact absurd q1.symm q2
      | some u => exact hm _ u hf)
    rw [List.length_map] at this
    omega
  · unfold wlF; rw [dif_neg hex]; exact Nat.zero_le _
theorem layK_fin {g : Nat → Nat → AV} {i : Nat} {x : MS} {k : Nat} (h : FinM x.M k) : ∀ j, FinM (layK g i x j).M (k + j)
  | 0 => h
  | j + 1 => (layK_fin h j).put _ _ _ _
theorem layN_fin {g : Nat → Nat → AV} {x : MS} {k : Nat} (h : FinM x.M k) : ∀ i, FinM (layN g x i).M (k + 10 * i)
  | 0 => h
  | i + 1 => (layK_fin (layN_fin h i) 10).mono (by omega)
theorem stN_C (M : List Int → Option Int) : ∀ k, stN (stF M) k = 1 + Int.ofNat (stC M k)
  | 0 => rfl
  | k + 1 => by
    show (if avInt (stF M (0 + k) 0) = 0 then stN (stF M) k + 1 else stN (stF M) k + 10) = 1 + Int.ofNat (stC M k + if stOwn M k then 10 else 1)
    rw [stN_C M k, Nat.zero_add]
    have e : avInt (stF M k 0) = if stOwn M k then mget M (key 8 (Int.ofNat k) 0) else 0 := rfl
    rw [e]
    by_cases o : stOwn M k
    · have o2 : mget M (key 8 (Int.ofNat k) 0) ≠ 0 := o
      rw [if_pos o, if_neg o2, if_pos o]; simp; omega
    · rw [if_neg o, if_pos rfl, if_neg o]; simp; omega
section
variable (n : Nat) (g : Nat → Nat → AV) (b : Int)
theorem ss_word (hn : n ≤ 16) (a f : Nat) (h : f < 10) : mget (ssX n g b).M (key 8 (Int.ofNat a) (Int.ofNat f)) = if a < n then avInt (g a f) else 0 := by
  unfold ssX
  rw [layN_get g _ a f h n hn]
  by_cases c : a < n
  · rw [if_pos c, if_pos c]
  · rw [if_neg c, if_neg c]
    show mget (memPut _ 5 0 0 _) _ = 0
    rw [mget_put, if_neg (fun q => by exact absurd q.2.1 (by decide))]
    rfl
theorem ss_blk (hb : 0 ≤ b ∧ b < 256) : mget (ssX n g b).M (key 5 0 0) = b := by
  unfold ssX
  rw [layN_blk]
  show mget (memPut _ 5 0 0 _) _ = _
  rw [mget_put, if_pos ⟨rfl, rfl, rfl, rfl⟩, i64w (by omega) (by omega), u64w (by omega) (by omega)]
theorem ss_rows (hn : n ≤ 16) (i : Nat) : WantR n g (stF (ssX n g b).M) i := fun j hj => by
  rw [Nat.zero_add]
  show stV (ssX n g b).M i j = _
  unfold stV
  have e : stOwn (ssX n g b).M i ↔ i < n ∧ avInt (g i 0) ≠ 0 := by
    unfold stOwn
    have := ss_word n g b hn i 0 (by decide)
    rw [show key 8 (Int.ofNat i) 0 = key 8 (Int.ofNat i) (Int.ofNat 0) from rfl, this]
    by_cases c : i < n
    · rw [if_pos c]; exact ⟨fun h => ⟨c, h⟩, fun h => h.2⟩
    · rw [if_neg c]; exact ⟨fun h => absurd rfl h, fun h => absurd h.1 c⟩
  by_cases c : i < n ∧ avInt (g i 0) ≠ 0
  · rw [if_pos (e.2 c), if_pos c, ss_word n g b hn i j hj, if_pos c.1]
  · rw [if_neg (fun q => c (e.1 q)), if_neg c]
theorem ss_fin (hn : n ≤ 16) : FinM (ssX n g b).M 1000000 := (layN_fin (((FinM.nil 0).put 5 0 0 _ : FinM (mStore ms0 5 0 0 (IntKind.u64.wrap (IntKind.i64.wrap b))).M 1)) n).mono (by omega)
end
end Go.Proofs.Ytmlfmmnnbdlabaa
