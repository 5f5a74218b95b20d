/-
  Barriers: a step at a word: contracts.
-/
import Derived.Test.YtmlfmmnnbdlabaaDoorQBr
set_option linter.unusedSimpArgs false
set_option linter.unusedVariables false
namespace Go.Proofs.YtmlfmmnnbdlabaaDoor
open Go.Ev
/-- A step of the document's Barrier (its line where the program's has a field). -/
def bpD (nb al : Int) (x : BQ) (w : Int) : BQ :=
  if bpPass nb (x.at_ - 2) w then ⟨x.lk, x.th + 1, 2, -1, if x.th + 1 = al then 0 else x.en, decide (x.th + 1 ≠ al)⟩
  else if x.at_ = 5 then (if 1 < x.lk then ⟨x.lk - 1, x.th, 2, x.th, x.en, true⟩ else ⟨x.lk, x.th, 0, x.th, 9, false⟩)
  else ⟨x.lk, x.th, x.at_ + 1, x.wt, x.en, true⟩
structure BdPre (nb al : Int) (x : BQ) (k l : Nat) (g : Nat → Nat → AV) : Prop where
  a0 : 2 ≤ x.at_ ∧ x.at_ ≤ 5
  th : 0 ≤ x.th ∧ x.th < al
  al : al ≤ 16
  lk : -9223372036854775808 ≤ x.lk ∧ x.lk ≤ 1000
  kl : k ≤ l
  km : k ≤ 100000
  nb : 0 ≤ nb ∧ nb < 18446744073709551616
  w : ∀ j, 0 ≤ dWord (dOf k g) 8 x.th j ∧ dWord (dOf k g) 8 x.th j < 18446744073709551616
theorem bpS_pass {nb al w : Int} {x : BQ} (h : bpPass nb x.at_ w = true) : bpS nb al x w = ⟨x.lk, x.th + 1, 0, -1, x.en, decide (x.th + 1 < al)⟩ := if_pos h
theorem bpS_fail {nb al w : Int} {x : BQ} (h : bpPass nb x.at_ w = false) (h3 : x.at_ ≠ 3) : bpS nb al x w = ⟨x.lk, x.th, x.at_ + 1, x.wt, x.en, true⟩ := by
  unfold bpS; rw [if_neg (by rw [h]; decide), if_neg h3]
theorem bpS_look {nb al w : Int} {x : BQ} (h : bpPass nb x.at_ w = false) (h3 : x.at_ = 3) (hl : 1 < x.lk) : bpS nb al x w = ⟨x.lk - 1, x.th, 0, x.th, x.en, true⟩ := by
  unfold bpS; rw [if_neg (by rw [h]; decide), if_pos h3, if_pos hl]
theorem bpS_gone {nb al w : Int} {x : BQ} (h : bpPass nb x.at_ w = false) (h3 : x.at_ = 3) (hl : ¬ 1 < x.lk) : bpS nb al x w = ⟨x.lk - 1, x.th, 0, x.th, 9, false⟩ := by
  unfold bpS; rw [if_neg (by rw [h]; decide), if_pos h3, if_neg hl]
theorem bpD_pass {nb al w : Int} {x : BQ} (h : bpPass nb (x.at_ - 2) w = true) : bpD nb al x w = ⟨x.lk, x.th + 1, 2, -1, if x.th + 1 = al then 0 else x.en, decide (x.th + 1 ≠ al)⟩ := if_pos h
theorem bpD_fail {nb al w : Int} {x : BQ} (h : bpPass nb (x.at_ - 2) w = false) (h3 : x.at_ ≠ 5) : bpD nb al x w = ⟨x.lk, x.th, x.at_ + 1, x.wt, x.en, true⟩ := by
  unfold bpD; rw [if_neg (by rw [h]; decide), if_neg h3]
theorem bpD_look {nb al w : Int} {x : BQ} (h : bpPass nb (x.at_ - 2) w = false) (h3 : x.at_ = 5) (hl : 1 < x.lk) : bpD nb al x w = ⟨x.lk - 1, x.th, 2, x.th, x.en, true⟩ := by
  unfold bpD; rw [if_neg (by rw [h]; decide), if_pos h3, if_pos hl]
theorem bpD_gone {nb al w : Int} {x : BQ} (h : bpPass nb (x.at_ - 2) w = false) (h3 : x.at_ = 5) (hl : ¬ 1 < x.lk) : bpD nb al x w = ⟨x.lk, x.th, 0, x.th, 9, false⟩ := by
  unfold bpD; rw [if_neg (by rw [h]; decide), if_pos h3, if_neg hl]
theorem pass0 {nb w : Int} {b : Bool} (h : (w == 0) = b) : bpPass nb 0 w = b := by
  rw [← h]; unfold bpPass; rw [if_neg (by decide), if_neg (by decide)]; rfl
theorem pass1 {nb w : Int} {b : Bool} (h : (w == 0) = b) : bpPass nb 1 w = b := by
  rw [← h]; unfold bpPass; rw [if_neg (by decide), if_neg (by decide)]; rfl
theorem pass2 {nb w : Int} {b : Bool} (h : bpReach nb w = b) : bpPass nb 2 w = b := by
  rw [← h]; unfold bpPass; rw [if_pos rfl]
theorem pass3 {nb w : Int} {b : Bool} (h : (w != 0) = b) : bpPass nb 3 w = b := by
  rw [← h]; unfold bpPass; rw [if_neg (by decide), if_pos rfl]
  by_cases c : w = 0
  · subst c; rfl
  · rw [decide_eq_true c]; exact (bne_iff_ne.2 c).symm
theorem pass3d {nb w : Int} {b : Bool} (h0 : 0 ≤ w) (h : decide (w > 0) = b) : bpPass nb 3 w = b := by
  rw [← h]; unfold bpPass; rw [if_neg (by decide), if_pos rfl, decide_eq_decide]; omega
noncomputable def bscR (nb lk th al at_ wt en : Int) (S : MS) (FT : Nat → Nat → AV) : LR := ⟨3, .bool false, [(gnm 0, .arr tab.length (tab.map kindOfV) true 1 FT), (1, .cells 9 [.bool true, .bool true, .sym .u64 nb, .sym .i64 (bpS nb al ⟨lk, th, at_, wt, en, true⟩ (mget S.M (key 8 th (bpFld at_)))).lk, .sym .i64 (bpS nb al ⟨lk, th, at_, wt, en, true⟩ (mget S.M (key 8 th (bpFld at_)))).th, .sym .i64 al, .sym .i64 (bpS nb al ⟨lk, th, at_, wt, en, true⟩ (mget S.M (key 8 th (bpFld at_)))).at_, .sym .i64 (bpS nb al ⟨lk, th, at_, wt, en, true⟩ (mget S.M (key 8 th (bpFld at_)))).wt, .sym .i64 (bpS nb al ⟨lk, th, at_, wt, en, true⟩ (mget S.M (key 8 th (bpFld at_)))).en]), (2, .cells 9 (.map 3 :: lsL (mLoad S 8 th (bpFld at_)).st (mLoad S 8 th (bpFld at_)).L)), (3, .map 76 S.M)], 0, [1, 2, 3], [FT = tabF tab, BpPre nb al ⟨lk, th, at_, wt, en, true⟩, (bpS nb al ⟨lk, th, at_, wt, en, true⟩ (mget S.M (key 8 th (bpFld at_)))).on = true]⟩
theorem bsc_loc (nb lk th al at_ wt en : Int) (S : MS) (FT : Nat → Nat → AV) : LocOk Tryd.prog 11 [.ptr 1 0 0, .ptr 2 0 0] [(gnm 0, .arr tab.length (tab.map kindOfV) true 1 FT), (1, .cells 9 [.symb true, .symb true, .sym .u64 nb, .sym .i64 lk, .sym .i64 th, .sym .i64 al, .sym .i64 at_, .sym .i64 wt, .sym .i64 en]), (2, .cells 9 (.map 3 :: lsL S.st S.L)), (3, .map 76 S.M)] (bscR nb lk th al at_ wt en S FT) := by
  intro ρ w hob hr hf hg xs hx
  have hFT : FT = tabF tab := hob _ (List.mem_cons_self ..)
  have hpp : BpPre nb al ⟨lk, th, at_, wt, en, true⟩ := hob _ (List.mem_cons_of_mem _ (List.mem_cons_self ..))
  have hon : (bpS nb al ⟨lk, th, at_, wt, en, true⟩ (mget S.M (key 8 th (bpFld at_)))).on = true := hob _ (List.mem_cons_of_mem _ (List.mem_cons_of_mem _ (List.mem_cons_self ..)))
  clear hob
  obtain ⟨a0, t0, al0, l0⟩ := hpp
  have hq : 0 ≤ th ∧ th < al ∧ al ≤ 16 ∧ 1 ≤ lk ∧ lk ≤ 1000 := ⟨t0.1, t0.2, al0, l0.1, l0.2⟩
  have a1 : 0 ≤ at_ ∧ at_ ≤ 3 := a0
  clear a0 t0 al0 l0
  rcases (show at_ = 0 ∨ at_ = 1 ∨ at_ = 2 ∨ at_ = 3 by omega) with rfl | rfl | rfl | rfl
  · cases hb : (mget S.M (key 8 th 0) == 0) with
    | true =>
      have e := bpS_pass (nb := nb) (al := al) (x := ⟨lk, th, 0, wt, en, true⟩) (pass0 hb)
      have hd : decide (th + 1 < al) = true := (congrArg BQ.on e).symm.trans hon
      have hc := of_decide_eq_true hd
      exact loc_sym (bs0n_loc nb lk th al wt en _ _ _ _ _ S FT) ρ w (cj ⟨hFT, hq, hb, hc, (congrArg BQ.lk e).symm, (congrArg BQ.th e).symm, (congrArg BQ.at_ e).symm, (congrArg BQ.wt e).symm, (congrArg BQ.en e).symm, trivial⟩) hr hf hg xs hx
    | false =>
      have e := bpS_fail (nb := nb) (al := al) (x := ⟨lk, th, 0, wt, en, true⟩) (pass0 hb) (show (0 : Int) ≠ 3 by decide)
      exact loc_sym (bs0f_loc nb lk th al wt en _ _ _ _ _ S FT) ρ w (cj ⟨hFT, hq, hb, (congrArg BQ.lk e).symm, (congrArg BQ.th e).symm, (congrArg BQ.at_ e).symm, (congrArg BQ.wt e).symm, (congrArg BQ.en e).symm, trivial⟩) hr hf hg xs hx
  · cases hb : (mget S.M (key 8 th 1) == 0) with
    | true =>
      have e := bpS_pass (nb := nb) (al := al) (x := ⟨lk, th, 1, wt, en, true⟩) (pass1 hb)
      have hd : decide (th + 1 < al) = true := (congrArg BQ.on e).symm.trans hon
      have hc := of_decide_eq_true hd
      exact loc_sym (bs1n_loc nb lk th al wt en _ _ _ _ _ S FT) ρ w (cj ⟨hFT, hq, hb, hc, (congrArg BQ.lk e).symm, (congrArg BQ.th e).symm, (congrArg BQ.at_ e).symm, (congrArg BQ.wt e).symm, (congrArg BQ.en e).symm, trivial⟩) hr hf hg xs hx
    | false =>
      have e := bpS_fail (nb := nb) (al := al) (x := ⟨lk, th, 1, wt, en, true⟩) (pass1 hb) (show (1 : Int) ≠ 3 by decide)
      exact loc_sym (bs1f_loc nb lk th al wt en _ _ _ _ _ S FT) ρ w (cj ⟨hFT, hq, hb, (congrArg BQ.lk e).symm, (congrArg BQ.th e).symm, (congrArg BQ.at_ e).symm, (congrArg BQ.wt e).symm, (congrArg BQ.en e).symm, trivial⟩) hr hf hg xs hx
  · cases hb : bpReach nb (mget S.M (key 8 th 2)) with
    | true =>
      have e := bpS_pass (nb := nb) (al := al) (x := ⟨lk, th, 2, wt, en, true⟩) (pass2 hb)
      have hd : decide (th + 1 < al) = true := (congrArg BQ.on e).symm.trans hon
      have hc := of_decide_eq_true hd
      exact loc_sym (bs2n_loc nb lk th al wt en _ _ _ _ _ S FT) ρ w (cj ⟨hFT, hq, hb, hc, (congrArg BQ.lk e).symm, (congrArg BQ.th e).symm, (congrArg BQ.at_ e).symm, (congrArg BQ.wt e).symm, (congrArg BQ.en e).symm, trivial⟩) hr hf hg xs hx
    | false =>
      have e := bpS_fail (nb := nb) (al := al) (x := ⟨lk, th, 2, wt, en, true⟩) (pass2 hb) (show (2 : Int) ≠ 3 by decide)
      exact loc_sym (bs2f_loc nb lk th al wt en _ _ _ _ _ S FT) ρ w (cj ⟨hFT, hq, hb, (congrArg BQ.lk e).symm, (congrArg BQ.th e).symm, (congrArg BQ.at_ e).symm, (congrArg BQ.wt e).symm, (congrArg BQ.en e).symm, trivial⟩) hr hf hg xs hx
  · cases hb : (mget S.M (key 8 th 6) != 0) with
    | true =>
      have e := bpS_pass (nb := nb) (al := al) (x := ⟨lk, th, 3, wt, en, true⟩) (pass3 hb)
      have hd : decide (th + 1 < al) = true := (congrArg BQ.on e).symm.trans hon
      have hc := of_decide_eq_true hd
      exact loc_sym (bs3n_loc nb lk th al wt en _ _ _ _ _ S FT) ρ w (cj ⟨hFT, hq, hb, hc, (congrArg BQ.lk e).symm, (congrArg BQ.th e).symm, (congrArg BQ.at_ e).symm, (congrArg BQ.wt e).symm, (congrArg BQ.en e).symm, trivial⟩) hr hf hg xs hx
    | false =>
      by_cases hc : 1 < lk
      · have e := bpS_look (nb := nb) (al := al) (x := ⟨lk, th, 3, wt, en, true⟩) (pass3 hb) rfl hc
        exact loc_sym (bs3f_loc nb lk th al wt en _ _ _ _ _ S FT) ρ w (cj ⟨hFT, hq, hb, hc, (congrArg BQ.lk e).symm, (congrArg BQ.th e).symm, (congrArg BQ.at_ e).symm, (congrArg BQ.wt e).symm, (congrArg BQ.en e).symm, trivial⟩) hr hf hg xs hx
      · have e := bpS_gone (nb := nb) (al := al) (x := ⟨lk, th, 3, wt, en, true⟩) (pass3 hb) rfl hc
        exact nomatch (show (false : Bool) = true from (congrArg BQ.on e).symm.trans hon)
noncomputable def bsoR (nb lk th al at_ wt en : Int) (S : MS) (FT : Nat → Nat → AV) : LR := ⟨3, .bool true, [(gnm 0, .arr tab.length (tab.map kindOfV) true 1 FT), (1, .cells 9 [.bool true, .bool false, .sym .u64 nb, .sym .i64 (bpS nb al ⟨lk, th, at_, wt, en, true⟩ (mget S.M (key 8 th (bpFld at_)))).lk, .sym .i64 (bpS nb al ⟨lk, th, at_, wt, en, true⟩ (mget S.M (key 8 th (bpFld at_)))).th, .sym .i64 al, .sym .i64 (bpS nb al ⟨lk, th, at_, wt, en, true⟩ (mget S.M (key 8 th (bpFld at_)))).at_, .sym .i64 (bpS nb al ⟨lk, th, at_, wt, en, true⟩ (mget S.M (key 8 th (bpFld at_)))).wt, .sym .i64 (bpS nb al ⟨lk, th, at_, wt, en, true⟩ (mget S.M (key 8 th (bpFld at_)))).en]), (2, .cells 9 (.map 3 :: lsL (mLoad S 8 th (bpFld at_)).st (mLoad S 8 th (bpFld at_)).L)), (3, .map 76 S.M)], 0, [1, 2, 3], [FT = tabF tab, BpPre nb al ⟨lk, th, at_, wt, en, true⟩, (bpS nb al ⟨lk, th, at_, wt, en, true⟩ (mget S.M (key 8 th (bpFld at_)))).on = false]⟩
theorem bso_loc (nb lk th al at_ wt en : Int) (S : MS) (FT : Nat → Nat → AV) : LocOk Tryd.prog 11 [.ptr 1 0 0, .ptr 2 0 0] [(gnm 0, .arr tab.length (tab.map kindOfV) true 1 FT), (1, .cells 9 [.symb true, .symb true, .sym .u64 nb, .sym .i64 lk, .sym .i64 th, .sym .i64 al, .sym .i64 at_, .sym .i64 wt, .sym .i64 en]), (2, .cells 9 (.map 3 :: lsL S.st S.L)), (3, .map 76 S.M)] (bsoR nb lk th al at_ wt en S FT) := by
  intro ρ w hob hr hf hg xs hx
  have hFT : FT = tabF tab := hob _ (List.mem_cons_self ..)
  have hpp : BpPre nb al ⟨lk, th, at_, wt, en, true⟩ := hob _ (List.mem_cons_of_mem _ (List.mem_cons_self ..))
  have hon : (bpS nb al ⟨lk, th, at_, wt, en, true⟩ (mget S.M (key 8 th (bpFld at_)))).on = false := hob _ (List.mem_cons_of_mem _ (List.mem_cons_of_mem _ (List.mem_cons_self ..)))
  clear hob
  obtain ⟨a0, t0, al0, l0⟩ := hpp
  have hq : 0 ≤ th ∧ th < al ∧ al ≤ 16 ∧ 1 ≤ lk ∧ lk ≤ 1000 := ⟨t0.1, t0.2, al0, l0.1, l0.2⟩
  have a1 : 0 ≤ at_ ∧ at_ ≤ 3 := a0
  clear a0 t0 al0 l0
  rcases (show at_ = 0 ∨ at_ = 1 ∨ at_ = 2 ∨ at_ = 3 by omega) with rfl | rfl | rfl | rfl
  · cases hb : (mget S.M (key 8 th 0) == 0) with
    | true =>
      have e := bpS_pass (nb := nb) (al := al) (x := ⟨lk, th, 0, wt, en, true⟩) (pass0 hb)
      have hd : decide (th + 1 < al) = false := (congrArg BQ.on e).symm.trans hon
      have hc := of_decide_eq_false hd
      exact loc_sym (bs0o_loc nb lk th al wt en _ _ _ _ _ S FT) ρ w (cj ⟨hFT, hq, hb, hc, (congrArg BQ.lk e).symm, (congrArg BQ.th e).symm, (congrArg BQ.at_ e).symm, (congrArg BQ.wt e).symm, (congrArg BQ.en e).symm, trivial⟩) hr hf hg xs hx
    | false =>
      have e := bpS_fail (nb := nb) (al := al) (x := ⟨lk, th, 0, wt, en, true⟩) (pass0 hb) (show (0 : Int) ≠ 3 by decide)
      exact nomatch (show (true : Bool) = false from (congrArg BQ.on e).symm.trans hon)
  · cases hb : (mget S.M (key 8 th 1) == 0) with
    | true =>
      have e := bpS_pass (nb := nb) (al := al) (x := ⟨lk, th, 1, wt, en, true⟩) (pass1 hb)
      have hd : decide (th + 1 < al) = false := (congrArg BQ.on e).symm.trans hon
      have hc := of_decide_eq_false hd
      exact loc_sym (bs1o_loc nb lk th al wt en _ _ _ _ _ S FT) ρ w (cj ⟨hFT, hq, hb, hc, (congrArg BQ.lk e).symm, (congrArg BQ.th e).symm, (congrArg BQ.at_ e).symm, (congrArg BQ.wt e).symm, (congrArg BQ.en e).symm, trivial⟩) hr hf hg xs hx
    | false =>
      have e := bpS_fail (nb := nb) (al := al) (x := ⟨lk, th, 1, wt, en, true⟩) (pass1 hb) (show (1 : Int) ≠ 3 by decide)
      exact nomatch (show (true : Bool) = false from (congrArg BQ.on e).symm.trans hon)
  · cases hb : bpReach nb (mget S.M (key 8 th 2)) with
    | true =>
      have e := bpS_pass (nb := nb) (al := al) (x := ⟨lk, th, 2, wt, en, true⟩) (pass2 hb)
      have hd : decide (th + 1 < al) = false := (congrArg BQ.on e).symm.trans hon
      have hc := of_decide_eq_false hd
      exact loc_sym (bs2o_loc nb lk th al wt en _ _ _ _ _ S FT) ρ w (cj ⟨hFT, hq, hb, hc, (congrArg BQ.lk e).symm, (congrArg BQ.th e).symm, (congrArg BQ.at_ e).symm, (congrArg BQ.wt e).symm, (congrArg BQ.en e).symm, trivial⟩) hr hf hg xs hx
    | false =>
      have e := bpS_fail (nb := nb) (al := al) (x := ⟨lk, th, 2, wt, en, true⟩) (pass2 hb) (show (2 : Int) ≠ 3 by decide)
      exact nomatch (show (true : Bool) = false from (congrArg BQ.on e).symm.trans hon)
  · cases hb : (mget S.M (key 8 th 6) != 0) with
    | true =>
      have e := bpS_pass (nb := nb) (al := al) (x := ⟨lk, th, 3, wt, en, true⟩) (pass3 hb)
      have hd : decide (th + 1 < al) = false := (congrArg BQ.on e).symm.trans hon
      have hc := of_decide_eq_false hd
      exact loc_sym (bs3o_loc nb lk th al wt en _ _ _ _ _ S FT) ρ w (cj ⟨hFT, hq, hb, hc, (congrArg BQ.lk e).symm, (congrArg BQ.th e).symm, (congrArg BQ.at_ e).symm, (congrArg BQ.wt e).symm, (congrArg BQ.en e).symm, trivial⟩) hr hf hg xs hx
    | false =>
      by_cases hc : 1 < lk
      · have e := bpS_look (nb := nb) (al := al) (x := ⟨lk, th, 3, wt, en, true⟩) (pass3 hb) rfl hc
        exact nomatch (show (true : Bool) = false from (congrArg BQ.on e).symm.trans hon)
      · have e := bpS_gone (nb := nb) (al := al) (x := ⟨lk, th, 3, wt, en, true⟩) (pass3 hb) rfl hc
        exact loc_sym (bs3g_loc nb lk th al wt en _ _ _ _ _ S FT) ρ w (cj ⟨hFT, hq, hb, hc, (congrArg BQ.lk e).symm, (congrArg BQ.th e).symm, (congrArg BQ.at_ e).symm, (congrArg BQ.wt e).symm, (congrArg BQ.en e).symm, trivial⟩) hr hf hg xs hx
noncomputable def brcR (nb lk th al ln wt en s2 : Int) (L2 : LS) (k l : Nat) (g : Nat → Nat → AV) : LR := ⟨3, .tup [], [(1, .cells 7 [.sym .i64 (bpD nb al ⟨lk, th, ln, wt, en, true⟩ (dWord (dOf k g) 8 th (bpFld (ln - 2)))).at_, .sym .u64 nb, .sym .i64 (bpD nb al ⟨lk, th, ln, wt, en, true⟩ (dWord (dOf k g) 8 th (bpFld (ln - 2)))).lk, .sym .i64 (bpD nb al ⟨lk, th, ln, wt, en, true⟩ (dWord (dOf k g) 8 th (bpFld (ln - 2)))).en, .sym .i64 (bpD nb al ⟨lk, th, ln, wt, en, true⟩ (dWord (dOf k g) 8 th (bpFld (ln - 2)))).wt, .sym .i64 (bpD nb al ⟨lk, th, ln, wt, en, true⟩ (dWord (dOf k g) 8 th (bpFld (ln - 2)))).th, .sym .i64 al]), (2, .cells 9 (.ss 4 3 0 k none :: lsL (rLoad (mkR k g s2 L2) 8 th (bpFld (ln - 2))).st (rLoad (mkR k g s2 L2) 8 th (bpFld (ln - 2))).L)), (3, .arr 4 wSh false l g)], 0, [1, 2], [BdPre nb al ⟨lk, th, ln, wt, en, true⟩ k l g, (bpD nb al ⟨lk, th, ln, wt, en, true⟩ (dWord (dOf k g) 8 th (bpFld (ln - 2)))).on = true]⟩
theorem brc_loc (nb lk th al ln wt en s2 : Int) (L2 : LS) (k l : Nat) (g : Nat → Nat → AV) : LocOk Tryd.prog 10 [.ptr 1 0 0, .ptr 2 0 0] [(1, .cells 7 [.sym .i64 ln, .sym .u64 nb, .sym .i64 lk, .sym .i64 en, .sym .i64 wt, .sym .i64 th, .sym .i64 al]), (2, .cells 9 (.ss 4 3 0 k none :: lsL s2 L2)), (3, .arr 4 wSh false l g)] (brcR nb lk th al ln wt en s2 L2 k l g) := by
  intro ρ w hob hr hf hg xs hx
  have hpp : BdPre nb al ⟨lk, th, ln, wt, en, true⟩ k l g := hob _ (List.mem_cons_self ..)
  have hon : (bpD nb al ⟨lk, th, ln, wt, en, true⟩ (dWord (dOf k g) 8 th (bpFld (ln - 2)))).on = true := hob _ (List.mem_cons_of_mem _ (List.mem_cons_self ..))
  clear hob
  obtain ⟨a0, t0, al0, l0, kl, km, n0, w0⟩ := hpp
  have hq : 0 ≤ th ∧ th < al ∧ al ≤ 16 ∧ -9223372036854775808 ≤ lk ∧ lk ≤ 1000 := ⟨t0.1, t0.2, al0, l0.1, l0.2⟩
  have hrr : 0 ≤ nb ∧ nb < 18446744073709551616 ∧ 0 ≤ dWord (dOf k g) 8 th 2 ∧ dWord (dOf k g) 8 th 2 < 18446744073709551616 := ⟨n0.1, n0.2, (w0 2).1, (w0 2).2⟩
  have h6 : 0 ≤ dWord (dOf k g) 8 th 6 := (w0 6).1
  have a1 : 2 ≤ ln ∧ ln ≤ 5 := a0
  clear a0 t0 al0 l0 w0
  rcases (show ln = 2 ∨ ln = 3 ∨ ln = 4 ∨ ln = 5 by omega) with rfl | rfl | rfl | rfl
  · cases hb : (dWord (dOf k g) 8 th 0 == 0) with
    | true =>
      have e := bpD_pass (nb := nb) (al := al) (x := ⟨lk, th, 2, wt, en, true⟩) (pass0 hb)
      have hd : decide (th + 1 ≠ al) = true := (congrArg BQ.on e).symm.trans hon
      have hc := of_decide_eq_true hd
      exact loc_sym (br0n_loc nb lk th al wt en _ _ _ _ _ s2 L2 k l g) ρ w (cj ⟨hq, kl, km, hrr, hb, hc, (congrArg BQ.lk e).symm, (congrArg BQ.th e).symm, (congrArg BQ.at_ e).symm, (congrArg BQ.wt e).symm, ((congrArg BQ.en e).trans (if_neg hc)).symm, trivial⟩) hr hf hg xs hx
    | false =>
      have e := bpD_fail (nb := nb) (al := al) (x := ⟨lk, th, 2, wt, en, true⟩) (pass0 hb) (show (2 : Int) ≠ 5 by decide)
      exact loc_sym (br0f_loc nb lk th al wt en _ _ _ _ _ s2 L2 k l g) ρ w (cj ⟨hq, kl, km, hrr, hb, (congrArg BQ.lk e).symm, (congrArg BQ.th e).symm, (congrArg BQ.at_ e).symm, (congrArg BQ.wt e).symm, (congrArg BQ.en e).symm, trivial⟩) hr hf hg xs hx
  · cases hb : (dWord (dOf k g) 8 th 1 == 0) with
    | true =>
      have e := bpD_pass (nb := nb) (al := al) (x := ⟨lk, th, 3, wt, en, true⟩) (pass1 hb)
      have hd : decide (th + 1 ≠ al) = true := (congrArg BQ.on e).symm.trans hon
      have hc := of_decide_eq_true hd
      exact loc_sym (br1n_loc nb lk th al wt en _ _ _ _ _ s2 L2 k l g) ρ w (cj ⟨hq, kl, km, hrr, hb, hc, (congrArg BQ.lk e).symm, (congrArg BQ.th e).symm, (congrArg BQ.at_ e).symm, (congrArg BQ.wt e).symm, ((congrArg BQ.en e).trans (if_neg hc)).symm, trivial⟩) hr hf hg xs hx
    | false =>
      have e := bpD_fail (nb := nb) (al := al) (x := ⟨lk, th, 3, wt, en, true⟩) (pass1 hb) (show (3 : Int) ≠ 5 by decide)
      exact loc_sym (br1f_loc nb lk th al wt en _ _ _ _ _ s2 L2 k l g) ρ w (cj ⟨hq, kl, km, hrr, hb, (congrArg BQ.lk e).symm, (congrArg BQ.th e).symm, (congrArg BQ.at_ e).symm, (congrArg BQ.wt e).symm, (congrArg BQ.en e).symm, trivial⟩) hr hf hg xs hx
  · cases hb : bpReach nb (dWord (dOf k g) 8 th 2) with
    | true =>
      have e := bpD_pass (nb := nb) (al := al) (x := ⟨lk, th, 4, wt, en, true⟩) (pass2 hb)
      have hd : decide (th + 1 ≠ al) = true := (congrArg BQ.on e).symm.trans hon
      have hc := of_decide_eq_true hd
      exact loc_sym (br2n_loc nb lk th al wt en _ _ _ _ _ s2 L2 k l g) ρ w (cj ⟨hq, kl, km, hrr, hb, hc, (congrArg BQ.lk e).symm, (congrArg BQ.th e).symm, (congrArg BQ.at_ e).symm, (congrArg BQ.wt e).symm, ((congrArg BQ.en e).trans (if_neg hc)).symm, trivial⟩) hr hf hg xs hx
    | false =>
      have e := bpD_fail (nb := nb) (al := al) (x := ⟨lk, th, 4, wt, en, true⟩) (pass2 hb) (show (4 : Int) ≠ 5 by decide)
      exact loc_sym (br2f_loc nb lk th al wt en _ _ _ _ _ s2 L2 k l g) ρ w (cj ⟨hq, kl, km, hrr, hb, (congrArg BQ.lk e).symm, (congrArg BQ.th e).symm, (congrArg BQ.at_ e).symm, (congrArg BQ.wt e).symm, (congrArg BQ.en e).symm, trivial⟩) hr hf hg xs hx
  · cases hb : decide (dWord (dOf k g) 8 th 6 > 0) with
    | true =>
      have e := bpD_pass (nb := nb) (al := al) (x := ⟨lk, th, 5, wt, en, true⟩) (pass3d h6 hb)
      have hd : decide (th + 1 ≠ al) = true := (congrArg BQ.on e).symm.trans hon
      have hc := of_decide_eq_true hd
      exact loc_sym (br3n_loc nb lk th al wt en _ _ _ _ _ s2 L2 k l g) ρ w (cj ⟨hq, kl, km, hrr, hb, hc, (congrArg BQ.lk e).symm, (congrArg BQ.th e).symm, (congrArg BQ.at_ e).symm, (congrArg BQ.wt e).symm, ((congrArg BQ.en e).trans (if_neg hc)).symm, trivial⟩) hr hf hg xs hx
    | false =>
      by_cases hc : 1 < lk
      · have e := bpD_look (nb := nb) (al := al) (x := ⟨lk, th, 5, wt, en, true⟩) (pass3d h6 hb) rfl hc
        exact loc_sym (br3f_loc nb lk th al wt en _ _ _ _ _ s2 L2 k l g) ρ w (cj ⟨hq, kl, km, hrr, hb, hc, (congrArg BQ.lk e).symm, (congrArg BQ.th e).symm, (congrArg BQ.at_ e).symm, (congrArg BQ.wt e).symm, (congrArg BQ.en e).symm, trivial⟩) hr hf hg xs hx
      · have e := bpD_gone (nb := nb) (al := al) (x := ⟨lk, th, 5, wt, en, true⟩) (pass3d h6 hb) rfl hc
        exact nomatch (show (false : Bool) = true from (congrArg BQ.on e).symm.trans hon)
noncomputable def broR (nb lk th al ln wt en s2 : Int) (L2 : LS) (k l : Nat) (g : Nat → Nat → AV) : LR := ⟨3, .tup [], [(1, .cells 7 [.int .i64 0, .sym .u64 nb, .sym .i64 (bpD nb al ⟨lk, th, ln, wt, en, true⟩ (dWord (dOf k g) 8 th (bpFld (ln - 2)))).lk, .sym .i64 (bpD nb al ⟨lk, th, ln, wt, en, true⟩ (dWord (dOf k g) 8 th (bpFld (ln - 2)))).en, .sym .i64 (bpD nb al ⟨lk, th, ln, wt, en, true⟩ (dWord (dOf k g) 8 th (bpFld (ln - 2)))).wt, .sym .i64 (bpD nb al ⟨lk, th, ln, wt, en, true⟩ (dWord (dOf k g) 8 th (bpFld (ln - 2)))).th, .sym .i64 al]), (2, .cells 9 (.ss 4 3 0 k none :: lsL (rLoad (mkR k g s2 L2) 8 th (bpFld (ln - 2))).st (rLoad (mkR k g s2 L2) 8 th (bpFld (ln - 2))).L)), (3, .arr 4 wSh false l g)], 0, [1, 2], [BdPre nb al ⟨lk, th, ln, wt, en, true⟩ k l g, (bpD nb al ⟨lk, th, ln, wt, en, true⟩ (dWord (dOf k g) 8 th (bpFld (ln - 2)))).on = false]⟩
theorem bro_loc (nb lk th al ln wt en s2 : Int) (L2 : LS) (k l : Nat) (g : Nat → Nat → AV) : LocOk Tryd.prog 10 [.ptr 1 0 0, .ptr 2 0 0] [(1, .cells 7 [.sym .i64 ln, .sym .u64 nb, .sym .i64 lk, .sym .i64 en, .sym .i64 wt, .sym .i64 th, .sym .i64 al]), (2, .cells 9 (.ss 4 3 0 k none :: lsL s2 L2)), (3, .arr 4 wSh false l g)] (broR nb lk th al ln wt en s2 L2 k l g) := by
  intro ρ w hob hr hf hg xs hx
  have hpp : BdPre nb al ⟨lk, th, ln, wt, en, true⟩ k l g := hob _ (List.mem_cons_self ..)
  have hon : (bpD nb al ⟨lk, th, ln, wt, en, true⟩ (dWord (dOf k g) 8 th (bpFld (ln - 2)))).on = false := hob _ (List.mem_cons_of_mem _ (List.mem_cons_self ..))
  clear hob
  obtain ⟨a0, t0, al0, l0, kl, km, n0, w0⟩ := hpp
  have hq : 0 ≤ th ∧ th < al ∧ al ≤ 16 ∧ -9223372036854775808 ≤ lk ∧ lk ≤ 1000 := ⟨t0.1, t0.2, al0, l0.1, l0.2⟩
  have hrr : 0 ≤ nb ∧ nb < 18446744073709551616 ∧ 0 ≤ dWord (dOf k g) 8 th 2 ∧ dWord (dOf k g) 8 th 2 < 18446744073709551616 := ⟨n0.1, n0.2, (w0 2).1, (w0 2).2⟩
  have h6 : 0 ≤ dWord (dOf k g) 8 th 6 := (w0 6).1
  have a1 : 2 ≤ ln ∧ ln ≤ 5 := a0
  clear a0 t0 al0 l0 w0
  rcases (show ln = 2 ∨ ln = 3 ∨ ln = 4 ∨ ln = 5 by omega) with rfl | rfl | rfl | rfl
  · cases hb : (dWord (dOf k g) 8 th 0 == 0) with
    | true =>
      have e := bpD_pass (nb := nb) (al := al) (x := ⟨lk, th, 2, wt, en, true⟩) (pass0 hb)
      have hd : decide (th + 1 ≠ al) = false := (congrArg BQ.on e).symm.trans hon
      have hc := Classical.not_not.1 (of_decide_eq_false hd)
      exact loc_sym (br0o_loc nb lk th al wt en _ _ 0 _ _ s2 L2 k l g) ρ w (cj ⟨hq, kl, km, hrr, hb, hc, (congrArg BQ.lk e).symm, (congrArg BQ.th e).symm, (congrArg BQ.wt e).symm, ((congrArg BQ.en e).trans (if_pos hc)).symm, trivial⟩) hr hf hg xs hx
    | false =>
      have e := bpD_fail (nb := nb) (al := al) (x := ⟨lk, th, 2, wt, en, true⟩) (pass0 hb) (show (2 : Int) ≠ 5 by decide)
      exact nomatch (show (true : Bool) = false from (congrArg BQ.on e).symm.trans hon)
  · cases hb : (dWord (dOf k g) 8 th 1 == 0) with
    | true =>
      have e := bpD_pass (nb := nb) (al := al) (x := ⟨lk, th, 3, wt, en, true⟩) (pass1 hb)
      have hd : decide (th + 1 ≠ al) = false := (congrArg BQ.on e).symm.trans hon
      have hc := Classical.not_not.1 (of_decide_eq_false hd)
      exact loc_sym (br1o_loc nb lk th al wt en _ _ 0 _ _ s2 L2 k l g) ρ w (cj ⟨hq, kl, km, hrr, hb, hc, (congrArg BQ.lk e).symm, (congrArg BQ.th e).symm, (congrArg BQ.wt e).symm, ((congrArg BQ.en e).trans (if_pos hc)).symm, trivial⟩) hr hf hg xs hx
    | false =>
      have e := bpD_fail (nb := nb) (al := al) (x := ⟨lk, th, 3, wt, en, true⟩) (pass1 hb) (show (3 : Int) ≠ 5 by decide)
      exact nomatch (show (true : Bool) = false from (congrArg BQ.on e).symm.trans hon)
  · cases hb : bpReach nb (dWord (dOf k g) 8 th 2) with
    | true =>
      have e := bpD_pass (nb := nb) (al := al) (x := ⟨lk, th, 4, wt, en, true⟩) (pass2 hb)
      have hd : decide (th + 1 ≠ al) = false := (congrArg BQ.on e).symm.trans hon
      have hc := Classical.not_not.1 (of_decide_eq_false hd)
      exact loc_sym (br2o_loc nb lk th al wt en _ _ 0 _ _ s2 L2 k l g) ρ w (cj ⟨hq, kl, km, hrr, hb, hc, (congrArg BQ.lk e).symm, (congrArg BQ.th e).symm, (congrArg BQ.wt e).symm, ((congrArg BQ.en e).trans (if_pos hc)).symm, trivial⟩) hr hf hg xs hx
    | false =>
      have e := bpD_fail (nb := nb) (al := al) (x := ⟨lk, th, 4, wt, en, true⟩) (pass2 hb) (show (4 : Int) ≠ 5 by decide)
      exact nomatch (show (true : Bool) = false from (congrArg BQ.on e).symm.trans hon)
  · cases hb : decide (dWord (dOf k g) 8 th 6 > 0) with
    | true =>
      have e := bpD_pass (nb := nb) (al := al) (x := ⟨lk, th, 5, wt, en, true⟩) (pass3d h6 hb)
      have hd : decide (th + 1 ≠ al) = false := (congrArg BQ.on e).symm.trans hon
      have hc := Classical.not_not.1 (of_decide_eq_false hd)
      exact loc_sym (br3o_loc nb lk th al wt en _ _ 0 _ _ s2 L2 k l g) ρ w (cj ⟨hq, kl, km, hrr, hb, hc, (congrArg BQ.lk e).symm, (congrArg BQ.th e).symm, (congrArg BQ.wt e).symm, ((congrArg BQ.en e).trans (if_pos hc)).symm, trivial⟩) hr hf hg xs hx
    | false =>
      by_cases hc : 1 < lk
      · have e := bpD_look (nb := nb) (al := al) (x := ⟨lk, th, 5, wt, en, true⟩) (pass3d h6 hb) rfl hc
        exact nomatch (show (true : Bool) = false from (congrArg BQ.on e).symm.trans hon)
      · have e := bpD_gone (nb := nb) (al := al) (x := ⟨lk, th, 5, wt, en, true⟩) (pass3d h6 hb) rfl hc
        exact loc_sym (br3g_loc nb lk th al wt en _ _ 0 _ _ s2 L2 k l g) ρ w (cj ⟨hq, kl, km, hrr, hb, hc, (congrArg BQ.lk e).symm, (congrArg BQ.th e).symm, (congrArg BQ.wt e).symm, (congrArg BQ.en e).symm, trivial⟩) hr hf hg xs hx
end Go.Proofs.YtmlfmmnnbdlabaaDoor
