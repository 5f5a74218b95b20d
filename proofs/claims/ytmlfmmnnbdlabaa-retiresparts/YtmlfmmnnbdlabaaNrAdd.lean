/-
  The program's Add.
-/
import Derived.Test.YtmlfmmnnbdlabaaNrAddDef
set_option linter.unusedSimpArgs false
set_option linter.unusedVariables false
namespace Go.Proofs.Ytmlfmmnnbdlabaa
open Go.Ev
section
variable (n l : Nat) (f : Nat → Nat → AV) (M : List Int → Option Int) (e : Ent)
theorem add_1 : callB EA 2000 13 [AV.ptr 1 0 0, AV.agg (entL e)] (lstH n l f M) (addR n l f M e) [(4, Src.nm 2)] [Hint.b true, Hint.b true, Hint.b true] =
 some ([1 = addE M e,
 (0 : Nat) = 0,
 n = addN n M e,
 (none : Option Nat) = none,
 false = false,
 addN n M e ≤ l,
 entF (addF n (fun i => entOf (f i)) e) = f ∧ plainSh eSh = true ∨ ∀ (i : Nat), i < addN n M e → rowOb eSh 0 (f i) (entF (addF n (fun i => entOf (f i)) e) i),
 ∀ (k : List Int), M k = addM M e k,
 (!decide (e.slot < 256)) = true,
 decide (e.slot ≥ 0) = true,
 (and2 (e.slot == e.slot) (and2 (e.gen == e.gen) (and2 (e.mark == false) true)) == true) = true]) := by kernel_rfl
theorem add_2 : callB EA 2000 13 [AV.ptr 1 0 0, AV.agg (entL e)] (lstH n l f M) (addR n l f M e) [(4, Src.nm 2)] [Hint.b true, Hint.b true, Hint.b false, Hint.node [], Hint.b true] =
 some ([8 = addE M e,
 (0 : Nat) = 0,
 n = addN n M e,
 (none : Option Nat) = none,
 false = false,
 addN n M e ≤ l,
 entF (addF n (fun i => entOf (f i)) e) = f ∧ plainSh eSh = true ∨ ∀ (i : Nat), i < addN n M e → rowOb eSh 0 (f i) (entF (addF n (fun i => entOf (f i)) e) i),
 ∀ (k : List Int), M k = addM M e k,
 decide (mget M [e.slot, e.gen, if e.mark = true then 1 else 0] > 0) = true,
 (!decide (e.slot < 256)) = false,
 decide (e.slot ≥ 0) = true,
 (and2 (e.slot == e.slot) (and2 (e.gen == e.gen) (and2 (e.mark == false) true)) == true) = true]) := by kernel_rfl
theorem add_3 : callB EA 2000 13 [AV.ptr 1 0 0, AV.agg (entL e)] (lstH n l f M) (addR n l f M e) [(4, Src.nm 4704952713861037901731138301631313894730901873571445199306628680956271979111974199798823723819869319322995822092669839567565867428952907743035689795581)] [Hint.b true, Hint.b true, Hint.b false, Hint.node [], Hint.b false] =
 some ([0 = addE M e,
 (0 : Nat) = 0,
 n + 1 = addN n M e,
 (none : Option Nat) = none,
 false = false,
 addN n M e ≤ n + 1,
 (entF (addF n (fun i => entOf (f i)) e) = fun i j => if i < n then f (0 + i) j else rowsOf 6 [AV.sym IntKind.i64 e.slot, AV.sym IntKind.u32 e.gen, AV.symb e.mark, AV.sym IntKind.u64 e.birth, AV.sym IntKind.u64 e.epoch, AV.sym IntKind.u64 e.era] (i - n) j) ∧ plainSh eSh = true ∨ ∀ (i : Nat), i < addN n M e → rowOb eSh 0 (fun j => if i < n then f (0 + i) j else rowsOf 6 [AV.sym IntKind.i64 e.slot, AV.sym IntKind.u32 e.gen, AV.symb e.mark, AV.sym IntKind.u64 e.birth, AV.sym IntKind.u64 e.epoch, AV.sym IntKind.u64 e.era] (i - n) j) (entF (addF n (fun i => entOf (f i)) e) i),
 ∀ (k : List Int), setKey M [e.slot, e.gen, if e.mark = true then 1 else 0] (some 1) k = addM M e k,
 ((n + 1) * 40).ble 70368744177664 = true,
 (0 + n).ble l = true,
 decide (mget M [e.slot, e.gen, if e.mark = true then 1 else 0] > 0) = false,
 (!decide (e.slot < 256)) = false,
 decide (e.slot ≥ 0) = true,
 (and2 (e.slot == e.slot) (and2 (e.gen == e.gen) (and2 (e.mark == false) true)) == true) = true]) := by kernel_rfl
theorem add_4 : callB EA 2000 13 [AV.ptr 1 0 0, AV.agg (entL e)] (lstH n l f M) (addR n l f M e) [(4, Src.nm 2)] [Hint.b true, Hint.b false] =
 some ([1 = addE M e,
 (0 : Nat) = 0,
 n = addN n M e,
 (none : Option Nat) = none,
 false = false,
 addN n M e ≤ l,
 entF (addF n (fun i => entOf (f i)) e) = f ∧ plainSh eSh = true ∨ ∀ (i : Nat), i < addN n M e → rowOb eSh 0 (f i) (entF (addF n (fun i => entOf (f i)) e) i),
 ∀ (k : List Int), M k = addM M e k,
 decide (e.slot ≥ 0) = false,
 (and2 (e.slot == e.slot) (and2 (e.gen == e.gen) (and2 (e.mark == false) true)) == true) = true]) := by kernel_rfl
theorem add_5 : callB EA 2000 13 [AV.ptr 1 0 0, AV.agg (entL e)] (lstH n l f M) (addR n l f M e) [(4, Src.nm 2)] [Hint.b false] =
 some ([1 = addE M e,
 (0 : Nat) = 0,
 n = addN n M e,
 (none : Option Nat) = none,
 false = false,
 addN n M e ≤ l,
 entF (addF n (fun i => entOf (f i)) e) = f ∧ plainSh eSh = true ∨ ∀ (i : Nat), i < addN n M e → rowOb eSh 0 (f i) (entF (addF n (fun i => entOf (f i)) e) i),
 ∀ (k : List Int), M k = addM M e k,
 (and2 (e.slot == e.slot) (and2 (e.gen == e.gen) (and2 (e.mark == false) true)) == true) = false]) := by kernel_rfl
theorem add_loc : LocOk Try.prog 13 [.ptr 1 0 0, .agg (entL e)] (lstH n l f M) (addR n l f M e) := by
  refine loc_of_call EA_ok (fun hp => ?_)
  have hl : n ≤ l := hp _ (List.mem_cons_self ..)
  have hlim : n ≤ 1000000 := hp _ (List.mem_cons_of_mem _ (List.mem_cons_self ..))
  clear hp
  cases h1 : (and2 (e.slot == e.slot) (and2 (e.gen == e.gen) (and2 (e.mark == false) true)) == true) with
  | true =>
    cases h2 : (decide (e.slot ≥ 0)) with
    | true =>
      have g2 := of_decide_eq_true h2
      try simp only [Int.ofNat_eq_natCast, ge_iff_le, gt_iff_lt, Int.not_lt, Int.not_le] at g2
      cases h3 : (!decide (e.slot < 256)) with
      | true =>
        have g3 : ¬ (e.slot < 256) := by simpa using h3
        refine ⟨2000, _, _, _, add_1 .., (ob_cons ?_ (ob_cons rfl (ob_cons ?_ (ob_cons rfl (ob_cons rfl (ob_cons ?_ (ob_cons ?_ (ob_cons ?_ (ob_cons h3 (ob_cons h2 (ob_cons h1 ob_nil)))))))))))⟩
        ·
          first | rfl | first | (unfold addN addE c1 c2 c3 c4 eKey; (try rw [h1]); (try rw [h2]); (try rw [h3]); first | rfl | exact Nat.le_refl _ | exact hl) | (unfold addE c1 c2 c3 c4 eKey; (try rw [h1]); (try rw [h2]); (try rw [h3]); (try rfl); done) | (unfold addM addE c1 c2 c3 c4 eKey; (try rw [h1]); (try rw [h2]); (try rw [h3]); exact fun _ => rfl) | exact .inr (add_rows (by unfold addN addE c1 c2 c3 c4 eKey; (try rw [h1]); (try rw [h2]); (try rw [h3]); exact Nat.le_refl _)) | (refine .inr (fun i hi => add_rows' i ?_); unfold addN addE c1 c2 c3 c4 eKey at hi; revert hi; (try rw [h1]); (try rw [h2]); (try rw [h3]); exact id) | (apply Nat.ble_eq_true_of_le; omega)
        ·
          first | rfl | first | (unfold addN addE c1 c2 c3 c4 eKey; (try rw [h1]); (try rw [h2]); (try rw [h3]); first | rfl | exact Nat.le_refl _ | exact hl) | (unfold addE c1 c2 c3 c4 eKey; (try rw [h1]); (try rw [h2]); (try rw [h3]); (try rfl); done) | (unfold addM addE c1 c2 c3 c4 eKey; (try rw [h1]); (try rw [h2]); (try rw [h3]); exact fun _ => rfl) | exact .inr (add_rows (by unfold addN addE c1 c2 c3 c4 eKey; (try rw [h1]); (try rw [h2]); (try rw [h3]); exact Nat.le_refl _)) | (refine .inr (fun i hi => add_rows' i ?_); unfold addN addE c1 c2 c3 c4 eKey at hi; revert hi; (try rw [h1]); (try rw [h2]); (try rw [h3]); exact id) | (apply Nat.ble_eq_true_of_le; omega)
        ·
          first | exact Nat.le_refl _ | omega | first | (unfold addN addE c1 c2 c3 c4 eKey; (try rw [h1]); (try rw [h2]); (try rw [h3]); first | rfl | exact Nat.le_refl _ | exact hl) | (unfold addE c1 c2 c3 c4 eKey; (try rw [h1]); (try rw [h2]); (try rw [h3]); (try rfl); done) | (unfold addM addE c1 c2 c3 c4 eKey; (try rw [h1]); (try rw [h2]); (try rw [h3]); exact fun _ => rfl) | exact .inr (add_rows (by unfold addN addE c1 c2 c3 c4 eKey; (try rw [h1]); (try rw [h2]); (try rw [h3]); exact Nat.le_refl _)) | (refine .inr (fun i hi => add_rows' i ?_); unfold addN addE c1 c2 c3 c4 eKey at hi; revert hi; (try rw [h1]); (try rw [h2]); (try rw [h3]); exact id) | (apply Nat.ble_eq_true_of_le; omega)
        ·
          first | exact .inl ⟨rfl, rfl⟩ | first | (unfold addN addE c1 c2 c3 c4 eKey; (try rw [h1]); (try rw [h2]); (try rw [h3]); first | rfl | exact Nat.le_refl _ | exact hl) | (unfold addE c1 c2 c3 c4 eKey; (try rw [h1]); (try rw [h2]); (try rw [h3]); (try rfl); done) | (unfold addM addE c1 c2 c3 c4 eKey; (try rw [h1]); (try rw [h2]); (try rw [h3]); exact fun _ => rfl) | exact .inr (add_rows (by unfold addN addE c1 c2 c3 c4 eKey; (try rw [h1]); (try rw [h2]); (try rw [h3]); exact Nat.le_refl _)) | (refine .inr (fun i hi => add_rows' i ?_); unfold addN addE c1 c2 c3 c4 eKey at hi; revert hi; (try rw [h1]); (try rw [h2]); (try rw [h3]); exact id) | (apply Nat.ble_eq_true_of_le; omega)
        ·
          first | exact fun _ => rfl | first | (unfold addN addE c1 c2 c3 c4 eKey; (try rw [h1]); (try rw [h2]); (try rw [h3]); first | rfl | exact Nat.le_refl _ | exact hl) | (unfold addE c1 c2 c3 c4 eKey; (try rw [h1]); (try rw [h2]); (try rw [h3]); (try rfl); done) | (unfold addM addE c1 c2 c3 c4 eKey; (try rw [h1]); (try rw [h2]); (try rw [h3]); exact fun _ => rfl) | exact .inr (add_rows (by unfold addN addE c1 c2 c3 c4 eKey; (try rw [h1]); (try rw [h2]); (try rw [h3]); exact Nat.le_refl _)) | (refine .inr (fun i hi => add_rows' i ?_); unfold addN addE c1 c2 c3 c4 eKey at hi; revert hi; (try rw [h1]); (try rw [h2]); (try rw [h3]); exact id) | (apply Nat.ble_eq_true_of_le; omega)
      | false =>
        have g3 : (e.slot < 256) := by simpa using h3
        cases h4 : (decide (mget M [e.slot, e.gen, if e.mark = true then 1 else 0] > 0)) with
        | true =>
          have g4 := of_decide_eq_true h4
          try simp only [Int.ofNat_eq_natCast, ge_iff_le, gt_iff_lt, Int.not_lt, Int.not_le] at g4
          refine ⟨2000, _, _, _, add_2 .., (ob_cons ?_ (ob_cons rfl (ob_cons ?_ (ob_cons rfl (ob_cons rfl (ob_cons ?_ (ob_cons ?_ (ob_cons ?_ (ob_cons h4 (ob_cons h3 (ob_cons h2 (ob_cons h1 ob_nil))))))))))))⟩
          ·
            first | rfl | first | (unfold addN addE c1 c2 c3 c4 eKey; (try rw [h1]); (try rw [h2]); (try rw [h3]); (try rw [h4]); first | rfl | exact Nat.le_refl _ | exact hl) | (unfold addE c1 c2 c3 c4 eKey; (try rw [h1]); (try rw [h2]); (try rw [h3]); (try rw [h4]); (try rfl); done) | (unfold addM addE c1 c2 c3 c4 eKey; (try rw [h1]); (try rw [h2]); (try rw [h3]); (try rw [h4]); exact fun _ => rfl) | exact .inr (add_rows (by unfold addN addE c1 c2 c3 c4 eKey; (try rw [h1]); (try rw [h2]); (try rw [h3]); (try rw [h4]); exact Nat.le_refl _)) | (refine .inr (fun i hi => add_rows' i ?_); unfold addN addE c1 c2 c3 c4 eKey at hi; revert hi; (try rw [h1]); (try rw [h2]); (try rw [h3]); (try rw [h4]); exact id) | (apply Nat.ble_eq_true_of_le; omega)
          ·
            first | rfl | first | (unfold addN addE c1 c2 c3 c4 eKey; (try rw [h1]); (try rw [h2]); (try rw [h3]); (try rw [h4]); first | rfl | exact Nat.le_refl _ | exact hl) | (unfold addE c1 c2 c3 c4 eKey; (try rw [h1]); (try rw [h2]); (try rw [h3]); (try rw [h4]); (try rfl); done) | (unfold addM addE c1 c2 c3 c4 eKey; (try rw [h1]); (try rw [h2]); (try rw [h3]); (try rw [h4]); exact fun _ => rfl) | exact .inr (add_rows (by unfold addN addE c1 c2 c3 c4 eKey; (try rw [h1]); (try rw [h2]); (try rw [h3]); (try rw [h4]); exact Nat.le_refl _)) | (refine .inr (fun i hi => add_rows' i ?_); unfold addN addE c1 c2 c3 c4 eKey at hi; revert hi; (try rw [h1]); (try rw [h2]); (try rw [h3]); (try rw [h4]); exact id) | (apply Nat.ble_eq_true_of_le; omega)
          ·
            first | exact Nat.le_refl _ | omega | first | (unfold addN addE c1 c2 c3 c4 eKey; (try rw [h1]); (try rw [h2]); (try rw [h3]); (try rw [h4]); first | rfl | exact Nat.le_refl _ | exact hl) | (unfold addE c1 c2 c3 c4 eKey; (try rw [h1]); (try rw [h2]); (try rw [h3]); (try rw [h4]); (try rfl); done) | (unfold addM addE c1 c2 c3 c4 eKey; (try rw [h1]); (try rw [h2]); (try rw [h3]); (try rw [h4]); exact fun _ => rfl) | exact .inr (add_rows (by unfold addN addE c1 c2 c3 c4 eKey; (try rw [h1]); (try rw [h2]); (try rw [h3]); (try rw [h4]); exact Nat.le_refl _)) | (refine .inr (fun i hi => add_rows' i ?_); unfold addN addE c1 c2 c3 c4 eKey at hi; revert hi; (try rw [h1]); (try rw [h2]); (try rw [h3]); (try rw [h4]); exact id) | (apply Nat.ble_eq_true_of_le; omega)
          ·
            first | exact .inl ⟨rfl, rfl⟩ | first | (unfold addN addE c1 c2 c3 c4 eKey; (try rw [h1]); (try rw [h2]); (try rw [h3]); (try rw [h4]); first | rfl | exact Nat.le_refl _ | exact hl) | (unfold addE c1 c2 c3 c4 eKey; (try rw [h1]); (try rw [h2]); (try rw [h3]); (try rw [h4]); (try rfl); done) | (unfold addM addE c1 c2 c3 c4 eKey; (try rw [h1]); (try rw [h2]); (try rw [h3]); (try rw [h4]); exact fun _ => rfl) | exact .inr (add_rows (by unfold addN addE c1 c2 c3 c4 eKey; (try rw [h1]); (try rw [h2]); (try rw [h3]); (try rw [h4]); exact Nat.le_refl _)) | (refine .inr (fun i hi => add_rows' i ?_); unfold addN addE c1 c2 c3 c4 eKey at hi; revert hi; (try rw [h1]); (try rw [h2]); (try rw [h3]); (try rw [h4]); exact id) | (apply Nat.ble_eq_true_of_le; omega)
          ·
            first | exact fun _ => rfl | first | (unfold addN addE c1 c2 c3 c4 eKey; (try rw [h1]); (try rw [h2]); (try rw [h3]); (try rw [h4]); first | rfl | exact Nat.le_refl _ | exact hl) | (unfold addE c1 c2 c3 c4 eKey; (try rw [h1]); (try rw [h2]); (try rw [h3]); (try rw [h4]); (try rfl); done) | (unfold addM addE c1 c2 c3 c4 eKey; (try rw [h1]); (try rw [h2]); (try rw [h3]); (try rw [h4]); exact fun _ => rfl) | exact .inr (add_rows (by unfold addN addE c1 c2 c3 c4 eKey; (try rw [h1]); (try rw [h2]); (try rw [h3]); (try rw [h4]); exact Nat.le_refl _)) | (refine .inr (fun i hi => add_rows' i ?_); unfold addN addE c1 c2 c3 c4 eKey at hi; revert hi; (try rw [h1]); (try rw [h2]); (try rw [h3]); (try rw [h4]); exact id) | (apply Nat.ble_eq_true_of_le; omega)
        | false =>
          have g4 := of_decide_eq_false h4
          try simp only [Int.ofNat_eq_natCast, ge_iff_le, gt_iff_lt, Int.not_lt, Int.not_le] at g4
          refine ⟨2000, _, _, _, add_3 .., (ob_cons ?_ (ob_cons rfl (ob_cons ?_ (ob_cons rfl (ob_cons rfl (ob_cons ?_ (ob_cons ?_ (ob_cons ?_ (ob_cons ?_ (ob_cons ?_ (ob_cons h4 (ob_cons h3 (ob_cons h2 (ob_cons h1 ob_nil))))))))))))))⟩
          ·
            first | rfl | first | (unfold addN addE c1 c2 c3 c4 eKey; (try rw [h1]); (try rw [h2]); (try rw [h3]); (try rw [h4]); first | rfl | exact Nat.le_refl _ | exact hl) | (unfold addE c1 c2 c3 c4 eKey; (try rw [h1]); (try rw [h2]); (try rw [h3]); (try rw [h4]); (try rfl); done) | (unfold addM addE c1 c2 c3 c4 eKey; (try rw [h1]); (try rw [h2]); (try rw [h3]); (try rw [h4]); exact fun _ => rfl) | exact .inr (add_rows (by unfold addN addE c1 c2 c3 c4 eKey; (try rw [h1]); (try rw [h2]); (try rw [h3]); (try rw [h4]); exact Nat.le_refl _)) | (refine .inr (fun i hi => add_rows' i ?_); unfold addN addE c1 c2 c3 c4 eKey at hi; revert hi; (try rw [h1]); (try rw [h2]); (try rw [h3]); (try rw [h4]); exact id) | (apply Nat.ble_eq_true_of_le; omega)
          ·
            first | rfl | first | (unfold addN addE c1 c2 c3 c4 eKey; (try rw [h1]); (try rw [h2]); (try rw [h3]); (try rw [h4]); first | rfl | exact Nat.le_refl _ | exact hl) | (unfold addE c1 c2 c3 c4 eKey; (try rw [h1]); (try rw [h2]); (try rw [h3]); (try rw [h4]); (try rfl); done) | (unfold addM addE c1 c2 c3 c4 eKey; (try rw [h1]); (try rw [h2]); (try rw [h3]); (try rw [h4]); exact fun _ => rfl) | exact .inr (add_rows (by unfold addN addE c1 c2 c3 c4 eKey; (try rw [h1]); (try rw [h2]); (try rw [h3]); (try rw [h4]); exact Nat.le_refl _)) | (refine .inr (fun i hi => add_rows' i ?_); unfold addN addE c1 c2 c3 c4 eKey at hi; revert hi; (try rw [h1]); (try rw [h2]); (try rw [h3]); (try rw [h4]); exact id) | (apply Nat.ble_eq_true_of_le; omega)
          ·
            first | exact Nat.le_refl _ | omega | first | (unfold addN addE c1 c2 c3 c4 eKey; (try rw [h1]); (try rw [h2]); (try rw [h3]); (try rw [h4]); first | rfl | exact Nat.le_refl _ | exact hl) | (unfold addE c1 c2 c3 c4 eKey; (try rw [h1]); (try rw [h2]); (try rw [h3]); (try rw [h4]); (try rfl); done) | (unfold addM addE c1 c2 c3 c4 eKey; (try rw [h1]); (try rw [h2]); (try rw [h3]); (try rw [h4]); exact fun _ => rfl) | exact .inr (add_rows (by unfold addN addE c1 c2 c3 c4 eKey; (try rw [h1]); (try rw [h2]); (try rw [h3]); (try rw [h4]); exact Nat.le_refl _)) | (refine .inr (fun i hi => add_rows' i ?_); unfold addN addE c1 c2 c3 c4 eKey at hi; revert hi; (try rw [h1]); (try rw [h2]); (try rw [h3]); (try rw [h4]); exact id) | (apply Nat.ble_eq_true_of_le; omega)
          ·
            first | exact .inl ⟨rfl, rfl⟩ | first | (unfold addN addE c1 c2 c3 c4 eKey; (try rw [h1]); (try rw [h2]); (try rw [h3]); (try rw [h4]); first | rfl | exact Nat.le_refl _ | exact hl) | (unfold addE c1 c2 c3 c4 eKey; (try rw [h1]); (try rw [h2]); (try rw [h3]); (try rw [h4]); (try rfl); done) | (unfold addM addE c1 c2 c3 c4 eKey; (try rw [h1]); (try rw [h2]); (try rw [h3]); (try rw [h4]); exact fun _ => rfl) | exact .inr (add_rows (by unfold addN addE c1 c2 c3 c4 eKey; (try rw [h1]); (try rw [h2]); (try rw [h3]); (try rw [h4]); exact Nat.le_refl _)) | (refine .inr (fun i hi => add_rows' i ?_); unfold addN addE c1 c2 c3 c4 eKey at hi; revert hi; (try rw [h1]); (try rw [h2]); (try rw [h3]); (try rw [h4]); exact id) | (apply Nat.ble_eq_true_of_le; omega)
          ·
            first | exact fun _ => rfl | first | (unfold addN addE c1 c2 c3 c4 eKey; (try rw [h1]); (try rw [h2]); (try rw [h3]); (try rw [h4]); first | rfl | exact Nat.le_refl _ | exact hl) | (unfold addE c1 c2 c3 c4 eKey; (try rw [h1]); (try rw [h2]); (try rw [h3]); (try rw [h4]); (try rfl); done) | (unfold addM addE c1 c2 c3 c4 eKey; (try rw [h1]); (try rw [h2]); (try rw [h3]); (try rw [h4]); exact fun _ => rfl) | exact .inr (add_rows (by unfold addN addE c1 c2 c3 c4 eKey; (try rw [h1]); (try rw [h2]); (try rw [h3]); (try rw [h4]); exact Nat.le_refl _)) | (refine .inr (fun i hi => add_rows' i ?_); unfold addN addE c1 c2 c3 c4 eKey at hi; revert hi; (try rw [h1]); (try rw [h2]); (try rw [h3]); (try rw [h4]); exact id) | (apply Nat.ble_eq_true_of_le; omega)
          ·
            first | (apply Nat.ble_eq_true_of_le; omega) | (simp [Nat.blt_eq]; omega) | first | (unfold addN addE c1 c2 c3 c4 eKey; (try rw [h1]); (try rw [h2]); (try rw [h3]); (try rw [h4]); first | rfl | exact Nat.le_refl _ | exact hl) | (unfold addE c1 c2 c3 c4 eKey; (try rw [h1]); (try rw [h2]); (try rw [h3]); (try rw [h4]); (try rfl); done) | (unfold addM addE c1 c2 c3 c4 eKey; (try rw [h1]); (try rw [h2]); (try rw [h3]); (try rw [h4]); exact fun _ => rfl) | exact .inr (add_rows (by unfold addN addE c1 c2 c3 c4 eKey; (try rw [h1]); (try rw [h2]); (try rw [h3]); (try rw [h4]); exact Nat.le_refl _)) | (refine .inr (fun i hi => add_rows' i ?_); unfold addN addE c1 c2 c3 c4 eKey at hi; revert hi; (try rw [h1]); (try rw [h2]); (try rw [h3]); (try rw [h4]); exact id) | (apply Nat.ble_eq_true_of_le; omega)
          ·
            first | (apply Nat.ble_eq_true_of_le; omega) | (simp [Nat.blt_eq]; omega) | first | (unfold addN addE c1 c2 c3 c4 eKey; (try rw [h1]); (try rw [h2]); (try rw [h3]); (try rw [h4]); first | rfl | exact Nat.le_refl _ | exact hl) | (unfold addE c1 c2 c3 c4 eKey; (try rw [h1]); (try rw [h2]); (try rw [h3]); (try rw [h4]); (try rfl); done) | (unfold addM addE c1 c2 c3 c4 eKey; (try rw [h1]); (try rw [h2]); (try rw [h3]); (try rw [h4]); exact fun _ => rfl) | exact .inr (add_rows (by unfold addN addE c1 c2 c3 c4 eKey; (try rw [h1]); (try rw [h2]); (try rw [h3]); (try rw [h4]); exact Nat.le_refl _)) | (refine .inr (fun i hi => add_rows' i ?_); unfold addN addE c1 c2 c3 c4 eKey at hi; revert hi; (try rw [h1]); (try rw [h2]); (try rw [h3]); (try rw [h4]); exact id) | (apply Nat.ble_eq_true_of_le; omega)
    | false =>
      have g2 := of_decide_eq_false h2
      try simp only [Int.ofNat_eq_natCast, ge_iff_le, gt_iff_lt, Int.not_lt, Int.not_le] at g2
      refine ⟨2000, _, _, _, add_4 .., (ob_cons ?_ (ob_cons rfl (ob_cons ?_ (ob_cons rfl (ob_cons rfl (ob_cons ?_ (ob_cons ?_ (ob_cons ?_ (ob_cons h2 (ob_cons h1 ob_nil))))))))))⟩
      ·
        first | rfl | first | (unfold addN addE c1 c2 c3 c4 eKey; (try rw [h1]); (try rw [h2]); first | rfl | exact Nat.le_refl _ | exact hl) | (unfold addE c1 c2 c3 c4 eKey; (try rw [h1]); (try rw [h2]); (try rfl); done) | (unfold addM addE c1 c2 c3 c4 eKey; (try rw [h1]); (try rw [h2]); exact fun _ => rfl) | exact .inr (add_rows (by unfold addN addE c1 c2 c3 c4 eKey; (try rw [h1]); (try rw [h2]); exact Nat.le_refl _)) | (refine .inr (fun i hi => add_rows' i ?_); unfold addN addE c1 c2 c3 c4 eKey at hi; revert hi; (try rw [h1]); (try rw [h2]); exact id) | (apply Nat.ble_eq_true_of_le; omega)
      ·
        first | rfl | first | (unfold addN addE c1 c2 c3 c4 eKey; (try rw [h1]); (try rw [h2]); first | rfl | exact Nat.le_refl _ | exact hl) | (unfold addE c1 c2 c3 c4 eKey; (try rw [h1]); (try rw [h2]); (try rfl); done) | (unfold addM addE c1 c2 c3 c4 eKey; (try rw [h1]); (try rw [h2]); exact fun _ => rfl) | exact .inr (add_rows (by unfold addN addE c1 c2 c3 c4 eKey; (try rw [h1]); (try rw [h2]); exact Nat.le_refl _)) | (refine .inr (fun i hi => add_rows' i ?_); unfold addN addE c1 c2 c3 c4 eKey at hi; revert hi; (try rw [h1]); (try rw [h2]); exact id) | (apply Nat.ble_eq_true_of_le; omega)
      ·
        first | exact Nat.le_refl _ | omega | first | (unfold addN addE c1 c2 c3 c4 eKey; (try rw [h1]); (try rw [h2]); first | rfl | exact Nat.le_refl _ | exact hl) | (unfold addE c1 c2 c3 c4 eKey; (try rw [h1]); (try rw [h2]); (try rfl); done) | (unfold addM addE c1 c2 c3 c4 eKey; (try rw [h1]); (try rw [h2]); exact fun _ => rfl) | exact .inr (add_rows (by unfold addN addE c1 c2 c3 c4 eKey; (try rw [h1]); (try rw [h2]); exact Nat.le_refl _)) | (refine .inr (fun i hi => add_rows' i ?_); unfold addN addE c1 c2 c3 c4 eKey at hi; revert hi; (try rw [h1]); (try rw [h2]); exact id) | (apply Nat.ble_eq_true_of_le; omega)
      ·
        first | exact .inl ⟨rfl, rfl⟩ | first | (unfold addN addE c1 c2 c3 c4 eKey; (try rw [h1]); (try rw [h2]); first | rfl | exact Nat.le_refl _ | exact hl) | (unfold addE c1 c2 c3 c4 eKey; (try rw [h1]); (try rw [h2]); (try rfl); done) | (unfold addM addE c1 c2 c3 c4 eKey; (try rw [h1]); (try rw [h2]); exact fun _ => rfl) | exact .inr (add_rows (by unfold addN addE c1 c2 c3 c4 eKey; (try rw [h1]); (try rw [h2]); exact Nat.le_refl _)) | (refine .inr (fun i hi => add_rows' i ?_); unfold addN addE c1 c2 c3 c4 eKey at hi; revert hi; (try rw [h1]); (try rw [h2]); exact id) | (apply Nat.ble_eq_true_of_le; omega)
      ·
        first | exact fun _ => rfl | first | (unfold addN addE c1 c2 c3 c4 eKey; (try rw [h1]); (try rw [h2]); first | rfl | exact Nat.le_refl _ | exact hl) | (unfold addE c1 c2 c3 c4 eKey; (try rw [h1]); (try rw [h2]); (try rfl); done) | (unfold addM addE c1 c2 c3 c4 eKey; (try rw [h1]); (try rw [h2]); exact fun _ => rfl) | exact .inr (add_rows (by unfold addN addE c1 c2 c3 c4 eKey; (try rw [h1]); (try rw [h2]); exact Nat.le_refl _)) | (refine .inr (fun i hi => add_rows' i ?_); unfold addN addE c1 c2 c3 c4 eKey at hi; revert hi; (try rw [h1]); (try rw [h2]); exact id) | (apply Nat.ble_eq_true_of_le; omega)
  | false =>
    refine ⟨2000, _, _, _, add_5 .., (ob_cons ?_ (ob_cons rfl (ob_cons ?_ (ob_cons rfl (ob_cons rfl (ob_cons ?_ (ob_cons ?_ (ob_cons ?_ (ob_cons h1 ob_nil)))))))))⟩
    ·
      first | rfl | first | (unfold addN addE c1 c2 c3 c4 eKey; (try rw [h1]); first | rfl | exact Nat.le_refl _ | exact hl) | (unfold addE c1 c2 c3 c4 eKey; (try rw [h1]); (try rfl); done) | (unfold addM addE c1 c2 c3 c4 eKey; (try rw [h1]); exact fun _ => rfl) | exact .inr (add_rows (by unfold addN addE c1 c2 c3 c4 eKey; (try rw [h1]); exact Nat.le_refl _)) | (refine .inr (fun i hi => add_rows' i ?_); unfold addN addE c1 c2 c3 c4 eKey at hi; revert hi; (try rw [h1]); exact id) | (apply Nat.ble_eq_true_of_le; omega)
    ·
      first | rfl | first | (unfold addN addE c1 c2 c3 c4 eKey; (try rw [h1]); first | rfl | exact Nat.le_refl _ | exact hl) | (unfold addE c1 c2 c3 c4 eKey; (try rw [h1]); (try rfl); done) | (unfold addM addE c1 c2 c3 c4 eKey; (try rw [h1]); exact fun _ => rfl) | exact .inr (add_rows (by unfold addN addE c1 c2 c3 c4 eKey; (try rw [h1]); exact Nat.le_refl _)) | (refine .inr (fun i hi => add_rows' i ?_); unfold addN addE c1 c2 c3 c4 eKey at hi; revert hi; (try rw [h1]); exact id) | (apply Nat.ble_eq_true_of_le; omega)
    ·
      first | exact Nat.le_refl _ | omega | first | (unfold addN addE c1 c2 c3 c4 eKey; (try rw [h1]); first | rfl | exact Nat.le_refl _ | exact hl) | (unfold addE c1 c2 c3 c4 eKey; (try rw [h1]); (try rfl); done) | (unfold addM addE c1 c2 c3 c4 eKey; (try rw [h1]); exact fun _ => rfl) | exact .inr (add_rows (by unfold addN addE c1 c2 c3 c4 eKey; (try rw [h1]); exact Nat.le_refl _)) | (refine .inr (fun i hi => add_rows' i ?_); unfold addN addE c1 c2 c3 c4 eKey at hi; revert hi; (try rw [h1]); exact id) | (apply Nat.ble_eq_true_of_le; omega)
    ·
      first | exact .inl ⟨rfl, rfl⟩ | first | (unfold addN addE c1 c2 c3 c4 eKey; (try rw [h1]); first | rfl | exact Nat.le_refl _ | exact hl) | (unfold addE c1 c2 c3 c4 eKey; (try rw [h1]); (try rfl); done) | (unfold addM addE c1 c2 c3 c4 eKey; (try rw [h1]); exact fun _ => rfl) | exact .inr (add_rows (by unfold addN addE c1 c2 c3 c4 eKey; (try rw [h1]); exact Nat.le_refl _)) | (refine .inr (fun i hi => add_rows' i ?_); unfold addN addE c1 c2 c3 c4 eKey at hi; revert hi; (try rw [h1]); exact id) | (apply Nat.ble_eq_true_of_le; omega)
    ·
      first | exact fun _ => rfl | first | (unfold addN addE c1 c2 c3 c4 eKey; (try rw [h1]); first | rfl | exact Nat.le_refl _ | exact hl) | (unfold addE c1 c2 c3 c4 eKey; (try rw [h1]); (try rfl); done) | (unfold addM addE c1 c2 c3 c4 eKey; (try rw [h1]); exact fun _ => rfl) | exact .inr (add_rows (by unfold addN addE c1 c2 c3 c4 eKey; (try rw [h1]); exact Nat.le_refl _)) | (refine .inr (fun i hi => add_rows' i ?_); unfold addN addE c1 c2 c3 c4 eKey at hi; revert hi; (try rw [h1]); exact id) | (apply Nat.ble_eq_true_of_le; omega)
end
noncomputable def addSpec : LSpec := fun la lh => match la, lh with
  | [.ptr z1 z2 z3, .agg [.sym .i64 a0, .sym .u32 a1, .symb a2, .sym .u64 a3, .sym .u64 a4, .sym .u64 a5]], [(z4, .cells z5 [.ss z6 z7 z8 n none, .map z9]), (z10, .arr z11 z12 false l f), (z13, .map z14 M)] =>
    match Nat.beq z1 1 && (Nat.beq z2 0 && (Nat.beq z3 0 && (Nat.beq z4 1 && (Nat.beq z5 2 && (Nat.beq z6 6 && (Nat.beq z7 2 && (Nat.beq z8 0 && (Nat.beq z9 3 && (Nat.beq z10 2 && (Nat.beq z11 6 && (shBeq z12 eSh && (Nat.beq z13 3 && (Nat.beq z14 119))))))))))))) with
    | true => some (addR n l f M ⟨a0, a1, a2, a3, a4, a5⟩)
    | false => none
  | _, _ => none
theorem addSpec_ok (la : List AV) (lh : List (Nat × AO)) (R : LR) (h : addSpec la lh = some R) : LocOk Try.prog 13 la lh R := by
  unfold addSpec at h
  split at h
  · rename_i z1 z2 z3 a0 a1 a2 a3 a4 a5 z4 z5 z6 z7 z8 n z9 z10 z11 z12 l f z13 z14 M
    split at h
    · rename_i hb
      simp only [Bool.and_eq_true] at hb
      obtain ⟨e1, e2, e3, e4, e5, e6, e7, e8, e9, e10, e11, e12, e13, e14⟩ := hb
      have e1 := Nat.eq_of_beq_eq_true e1; subst e1
      have e2 := Nat.eq_of_beq_eq_true e2; subst e2
      have e3 := Nat.eq_of_beq_eq_true e3; subst e3
      have e4 := Nat.eq_of_beq_eq_true e4; subst e4
      have e5 := Nat.eq_of_beq_eq_true e5; subst e5
      have e6 := Nat.eq_of_beq_eq_true e6; subst e6
      have e7 := Nat.eq_of_beq_eq_true e7; subst e7
      have e8 := Nat.eq_of_beq_eq_true e8; subst e8
      have e9 := Nat.eq_of_beq_eq_true e9; subst e9
      have e10 := Nat.eq_of_beq_eq_true e10; subst e10
      have e11 := Nat.eq_of_beq_eq_true e11; subst e11
      have e12 := shBeq_eq e12; subst e12
      have e13 := Nat.eq_of_beq_eq_true e13; subst e13
      have e14 := Nat.eq_of_beq_eq_true e14; subst e14
      cases h
      exact add_loc n l f M ⟨a0, a1, a2, a3, a4, a5⟩
    · cases h
  · cases h

end Go.Proofs.Ytmlfmmnnbdlabaa
