/-
  For all inputs, RetiresParts returns true; its arguments read as before. No condition.
-/
import Derived.Test.YtmlfmmnnbdlabaaNrPiDef
set_option linter.unusedSimpArgs false
set_option linter.unusedVariables false
namespace Go.Proofs.Ytmlfmmnnbdlabaa
open Go.Ev Go.ChangeShapes Go.WideShapes Go.ChangeAt Go.RowKit
set_option maxRecDepth 100000
theorem re2_ok {s : LS} {G : Nat → Ent} {g : Nat} (hu : Uq g G) (h0 : ∀ j, j < g → mget s.M (eKey (G j)) = 0) : ∀ j, j ≤ g → (reTwo s G j).n = s.n + j ∧ (∀ k, j ≤ k → k < g → mget (reTwo s G j).M (eKey (G k)) = 0)
  | 0, _ => ⟨rfl, fun k _ hk => h0 k hk⟩
  | j + 1, h => by
    obtain ⟨h1, h2⟩ := re2_ok hu h0 j (by omega)
    have hc0 := add_ok (hu.may j (by omega)) (h2 j (Nat.le_refl _) (by omega))
    have hc : (addE (reTwo s G j).M (G j) == 0) = true := by rw [hc0]; rfl
    have hM : addM (reTwo s G j).M (G j) = setKey (reTwo s G j).M (eKey (G j)) (some 1) := addM_t hc
    have hd : (addE (addM (reTwo s G j).M (G j)) (G j) == 0) = false := by rw [add_same (hu.may j (by omega)) (by rw [hM, get_set])]; rfl
    refine ⟨?_, fun k hk hkg => ?_⟩
    · show addN (addN _ _ (G (0 + j))) (addM _ (G (0 + j))) (G (0 + j)) = _
      rw [Nat.zero_add, addN_f hd, addN_t hc, h1]; omega
    · show mget (addM (addM _ (G (0 + j))) (G (0 + j))) _ = 0
      rw [Nat.zero_add, addM_f hd, hM, get_ne (fun e => hu.diff j k (by omega) hkg e.symm)]
      exact h2 k (by omega) hkg
theorem re2_add {s : LS} {G : Nat → Ent} {g : Nat} (hu : Uq g G) (h0 : ∀ j, j < g → mget s.M (eKey (G j)) = 0) (j : Nat) (hj : j < g) : addE (reTwo s G j).M (G (0 + j)) = 0 ∧ addE (addM (reTwo s G j).M (G (0 + j))) (G (0 + j)) = 8 := by
  obtain ⟨h1, h2⟩ := re2_ok hu h0 j (by omega)
  have hc := add_ok (hu.may j hj) (h2 j (Nat.le_refl _) hj)
  rw [Nat.zero_add]
  refine ⟨hc, add_same (hu.may j hj) ?_⟩
  rw [addM_t (by rw [hc]; rfl), get_set]
theorem fin_eq {E : Nat → Ent} {p : Nat → Bool} {k n : Nat} (h : ∀ i, i < k → p i = true) (hk : k = n) : (Int.ofNat (swG E p k).length == Int.ofNat n) = true := by
  rw [(swG_all (E := E) k h).1, hk]; simp
theorem fin_ne {E : Nat → Ent} {p : Nat → Bool} {k : Nat} (h : ∀ i, i < k → p i = true) (hk : 0 < k) : swG E p k ≠ [] := fun e => by
  have q := (swG_all (E := E) k h).1
  rw [e] at q; simp at q; omega
theorem rpE_eq (m : Nat) (f : Nat → Nat → AV) : rpE m f = (rpL m f).E := by
  funext i; show (rpL m f).E (0 + i) = _; rw [Nat.zero_add]
theorem rpD_eq (m : Nat) (f : Nat → Nat → AV) : rpD m f = (rpL m f).E := by
  funext i; show (rpL m f).E (0 + (0 + i)) = _; rw [Nat.zero_add, Nat.zero_add]
theorem entB_self (f : Nat → AV) : entB f f = true := by unfold entB; simp [and2]
theorem same_self (n : Nat) (f : Nat → Nat → AV) : (!sameB n n 0 0 f f) = false := by
  have h : allB (fun i => entB (f (0 + i)) (f (0 + i))) n = true := (allB_iff _ n).2 fun i hi => entB_self _
  unfold sameB; rw [h]; simp
theorem rqg1_1 (m q : Nat) (f g : Nat → Nat → AV) : (callF ERp 6000 3 [AV.ss 6 1 0 m none, AV.ss 1 2 0 q none] ⟨[(1, AO.arr 6 eSh true m f), (2, AO.arr 1 [CK.bool] true q g)], 3, gnm 0, [Hint.b true], [], [], false⟩).map (fun x => (x.1, x.2.ob, noneIn [(1, AO.arr 6 eSh true m f), (2, AO.arr 1 [CK.bool] true q g)] x.2.wr)) =
 some (AV.bool true, [decide (Int.ofNat m > 100) = true], true) := by kernel_rfl
theorem rqg2_1 (m q : Nat) (f g : Nat → Nat → AV) : (callF ERp 6000 3 [AV.ss 6 1 0 m none, AV.ss 1 2 0 q none] ⟨[(1, AO.arr 6 eSh true m f), (2, AO.arr 1 [CK.bool] true q g)], 3, gnm 0, [Hint.b false, Hint.b true], [], [], false⟩).map (fun x => (x.1, x.2.ob, noneIn [(1, AO.arr 6 eSh true m f), (2, AO.arr 1 [CK.bool] true q g)] x.2.wr)) =
 some (AV.bool true, [decide (Int.ofNat q > 200) = true,
 decide (Int.ofNat m > 100) = false], true) := by kernel_rfl
theorem rq00_1 (m q : Nat) (f g : Nat → Nat → AV) : (callF ERp 6000 3 [AV.ss 6 1 0 m none, AV.ss 1 2 0 q none] ⟨[(1, AO.arr 6 eSh true m f), (2, AO.arr 1 [CK.bool] true q g)], 3, gnm 0, [Hint.b false, Hint.b false, Hint.lp [0, 1, 4, 5, 6] (Ex.exit 0) (paXA m q f g).tmps (paXA m q f g).hp.heap 4 []], [], [], false⟩).map (fun x => (x.1, x.2.ob, noneIn [(1, AO.arr 6 eSh true m f), (2, AO.arr 1 [CK.bool] true q g)] x.2.wr)) =
 some (AV.bool true, [paLA m q f g,
 decide (Int.ofNat q > 200) = false,
 decide (Int.ofNat m > 100) = false], true) := by kernel_rfl
theorem rq11_1 (m q : Nat) (f g : Nat → Nat → AV) : (callF ERp 6000 3 [AV.ss 6 1 0 m none, AV.ss 1 2 0 q none] ⟨[(1, AO.arr 6 eSh true m f), (2, AO.arr 1 [CK.bool] true q g)], 3, gnm 0, [Hint.b false, Hint.b false, Hint.lp [0, 1, 4, 5, 6] (Ex.exit 0) (paXB m q f g (rpL m f).n (rpL m f).E (rpL m f).M).tmps (paXB m q f g (rpL m f).n (rpL m f).E (rpL m f).M).hp.heap 6 [3], Hint.b false, Hint.n 0, Hint.lp [1, 4, 5, 7, 8, 9, 10, 11, 12] (Ex.exit 2) (pcX11 q (rpL m f).n g (rpL m f).E (rpG m q f g) (rpS m q f g) (rpM m q f g)).tmps (pcX11 q (rpL m f).n g (rpL m f).E (rpG m q f g) (rpS m q f g) (rpM m q f g)).hp.heap 12 [5, 3], Hint.b false, Hint.b false, Hint.b false, Hint.lp [4, 5, 7, 8, 13] (Ex.exit 5) (pd11X (rpL m f).n (rpL m f).E (rpG m q f g) (rpS m q f g) (rpM m q f g) (rpG m q f g).length).tmps (pd11X (rpL m f).n (rpL m f).E (rpG m q f g) (rpS m q f g) (rpM m q f g) (rpG m q f g).length).hp.heap 13 [10, 5, 3], Hint.lpl [4, 5, 7, 14, 15] [3, 6] 0 (Ex.exit 7) (peX (rpL m f).n (rpL m f).n).tmps (peX (rpL m f).n (rpL m f).n).hp.heap 1 [], Hint.n 1, Hint.b true], [], [], false⟩).map (fun x => (x.1, x.2.ob, noneIn [(1, AO.arr 6 eSh true m f), (2, AO.arr 1 [CK.bool] true q g)] x.2.wr)) =
 some (AV.bool true, [(Int.ofNat (swG (fun i => entOf (entF (reTwo (LS.mk (rpS m q f g).length (entAt (rpS m q f g)) (rpM m q f g)) (entAt (rpG m q f g)) (rpG m q f g).length).E (0 + i))) (swP (rpL m f).n evF) (reTwo (LS.mk (rpS m q f g).length (entAt (rpS m q f g)) (rpM m q f g)) (entAt (rpG m q f g)) (rpG m q f g).length).n).length == Int.ofNat (rpL m f).n) = true,
 (reTwo (LS.mk (rpS m q f g).length (entAt (rpS m q f g)) (rpM m q f g)) (entAt (rpG m q f g)) (rpG m q f g).length).n ≤ (reTwo (LS.mk (rpS m q f g).length (entAt (rpS m q f g)) (rpM m q f g)) (entAt (rpG m q f g)) (rpG m q f g).length).n,
 (reTwo (LS.mk (rpS m q f g).length (entAt (rpS m q f g)) (rpM m q f g)) (entAt (rpG m q f g)) (rpG m q f g).length).n ≤ 1000000,
 (rpL m f).n ≤ (rpL m f).n,
 (rpL m f).n ≤ 1000000,
 swG (fun i => entOf (entF (reTwo (LS.mk (rpS m q f g).length (entAt (rpS m q f g)) (rpM m q f g)) (entAt (rpG m q f g)) (rpG m q f g).length).E (0 + i))) (swP (rpL m f).n evF) (reTwo (LS.mk (rpS m q f g).length (entAt (rpS m q f g)) (rpM m q f g)) (entAt (rpG m q f g)) (rpG m q f g).length).n ≠ [],
 swS (fun i => entOf (entF (reTwo (LS.mk (rpS m q f g).length (entAt (rpS m q f g)) (rpM m q f g)) (entAt (rpG m q f g)) (rpG m q f g).length).E (0 + i))) (swP (rpL m f).n evF) (reTwo (LS.mk (rpS m q f g).length (entAt (rpS m q f g)) (rpM m q f g)) (entAt (rpG m q f g)) (rpG m q f g).length).n = [],
 peLP (rpL m f).n,
 pd11LP (rpL m f).n (rpL m f).E (rpG m q f g) (rpS m q f g) (rpM m q f g),
 (Int.ofNat (rpS m q f g).length != Int.ofNat (rpS m q f g).length) = false,
 (Int.ofNat (rpS m q f g).length != Int.ofNat (rpS m q f g).length) = false,
 (Int.ofNat (rpG m q f g).length != Int.ofNat (rpG m q f g).length) = false,
 pcLP11 m q (rpL m f).n f g (rpL m f).E (rpE m f) (rpG m q f g) (rpS m q f g) (rpM m q f g),
 (swS (fun i => entOf (entF (fun i => entOf (entF (rpL m f).E (0 + i))) (0 + i))) (swP q g) (rpL m f).n).length ≤ (swS (fun i => entOf (entF (fun i => entOf (entF (rpL m f).E (0 + i))) (0 + i))) (swP q g) (rpL m f).n).length,
 (swS (fun i => entOf (entF (fun i => entOf (entF (rpL m f).E (0 + i))) (0 + i))) (swP q g) (rpL m f).n).length ≤ 1000000,
 0 < (swS (fun i => entOf (entF (fun i => entOf (entF (rpL m f).E (0 + i))) (0 + i))) (swP q g) (rpL m f).n).length,
 (rpL m f).n ≤ (rpL m f).n,
 (rpL m f).n ≤ 1000000,
 q ≤ q,
 q ≤ 1000000,
 swG (fun i => entOf (entF (fun i => entOf (entF (rpL m f).E (0 + i))) (0 + i))) (swP q g) (rpL m f).n ≠ [],
 swS (fun i => entOf (entF (fun i => entOf (entF (rpL m f).E (0 + i))) (0 + i))) (swP q g) (rpL m f).n ≠ [],
 (!sameB (rpL m f).n (rpL m f).n 0 0 (entF fun i => entOf (entF (rpL m f).E (0 + i))) (entF (rpL m f).E)) = false,
 0 + (rpL m f).n ≤ (rpL m f).n,
 0 + (rpL m f).n ≤ (rpL m f).n,
 (rpL m f).n ≤ 1000000,
 (rpL m f).n ≤ (rpL m f).n,
 (rpL m f).n ≤ 1000000,
 0 < (rpL m f).n,
 (rpL m f).n ≤ (rpL m f).n,
 (rpL m f).n ≤ 1000000,
 0 < (rpL m f).n,
 (rpL m f).n ≤ (rpL m f).n,
 (rpL m f).n ≤ 1000000,
 0 < (rpL m f).n,
 paLB m q f g (rpL m f).n (rpL m f).E (rpL m f).M,
 decide (Int.ofNat q > 200) = false,
 decide (Int.ofNat m > 100) = false], true) := by kernel_rfl
theorem rq10_1 (m q : Nat) (f g : Nat → Nat → AV) : (callF ERp 6000 3 [AV.ss 6 1 0 m none, AV.ss 1 2 0 q none] ⟨[(1, AO.arr 6 eSh true m f), (2, AO.arr 1 [CK.bool] true q g)], 3, gnm 0, [Hint.b false, Hint.b false, Hint.lp [0, 1, 4, 5, 6] (Ex.exit 0) (paXB m q f g (rpL m f).n (rpL m f).E (rpL m f).M).tmps (paXB m q f g (rpL m f).n (rpL m f).E (rpL m f).M).hp.heap 6 [3], Hint.b false, Hint.n 1, Hint.lp [1, 4, 5, 7, 8, 9, 10, 11, 12] (Ex.exit 2) (pcX10 q (rpL m f).n g (rpL m f).E (rpG m q f g) (rpS m q f g) (rpM m q f g)).tmps (pcX10 q (rpL m f).n g (rpL m f).E (rpG m q f g) (rpS m q f g) (rpM m q f g)).hp.heap 11 [5, 3], Hint.b false, Hint.b false, Hint.lp [4, 5, 7, 8, 13] (Ex.exit 5) (pd10X (rpL m f).n (rpL m f).E (rpG m q f g) (rpS m q f g) (rpM m q f g) (rpG m q f g).length).tmps (pd10X (rpL m f).n (rpL m f).E (rpG m q f g) (rpS m q f g) (rpM m q f g) (rpG m q f g).length).hp.heap 13 [5, 3], Hint.lpl [4, 5, 7, 14, 15] [3, 6] 0 (Ex.exit 7) (peX (rpL m f).n (rpL m f).n).tmps (peX (rpL m f).n (rpL m f).n).hp.heap 1 [], Hint.n 1, Hint.b true], [], [], false⟩).map (fun x => (x.1, x.2.ob, noneIn [(1, AO.arr 6 eSh true m f), (2, AO.arr 1 [CK.bool] true q g)] x.2.wr)) =
 some (AV.bool true, [(Int.ofNat (swG (fun i => entOf (entF (reTwo (LS.mk (rpS m q f g).length (entAt (rpS m q f g)) (rpM m q f g)) (entAt (rpG m q f g)) (rpG m q f g).length).E (0 + i))) (swP (rpL m f).n evF) (reTwo (LS.mk (rpS m q f g).length (entAt (rpS m q f g)) (rpM m q f g)) (entAt (rpG m q f g)) (rpG m q f g).length).n).length == Int.ofNat (rpL m f).n) = true,
 (reTwo (LS.mk (rpS m q f g).length (entAt (rpS m q f g)) (rpM m q f g)) (entAt (rpG m q f g)) (rpG m q f g).length).n ≤ (reTwo (LS.mk (rpS m q f g).length (entAt (rpS m q f g)) (rpM m q f g)) (entAt (rpG m q f g)) (rpG m q f g).length).n,
 (reTwo (LS.mk (rpS m q f g).length (entAt (rpS m q f g)) (rpM m q f g)) (entAt (rpG m q f g)) (rpG m q f g).length).n ≤ 1000000,
 (rpL m f).n ≤ (rpL m f).n,
 (rpL m f).n ≤ 1000000,
 swG (fun i => entOf (entF (reTwo (LS.mk (rpS m q f g).length (entAt (rpS m q f g)) (rpM m q f g)) (entAt (rpG m q f g)) (rpG m q f g).length).E (0 + i))) (swP (rpL m f).n evF) (reTwo (LS.mk (rpS m q f g).length (entAt (rpS m q f g)) (rpM m q f g)) (entAt (rpG m q f g)) (rpG m q f g).length).n ≠ [],
 swS (fun i => entOf (entF (reTwo (LS.mk (rpS m q f g).length (entAt (rpS m q f g)) (rpM m q f g)) (entAt (rpG m q f g)) (rpG m q f g).length).E (0 + i))) (swP (rpL m f).n evF) (reTwo (LS.mk (rpS m q f g).length (entAt (rpS m q f g)) (rpM m q f g)) (entAt (rpG m q f g)) (rpG m q f g).length).n = [],
 peLP (rpL m f).n,
 pd10LP (rpL m f).n (rpL m f).E (rpG m q f g) (rpS m q f g) (rpM m q f g),
 (Int.ofNat (rpS m q f g).length != 0) = false,
 (Int.ofNat (rpG m q f g).length != Int.ofNat (rpG m q f g).length) = false,
 pcLP10 m q (rpL m f).n f g (rpL m f).E (rpE m f) (rpG m q f g) (rpS m q f g) (rpM m q f g),
 (rpL m f).n ≤ (rpL m f).n,
 (rpL m f).n ≤ 1000000,
 q ≤ q,
 q ≤ 1000000,
 swG (fun i => entOf (entF (fun i => entOf (entF (rpL m f).E (0 + i))) (0 + i))) (swP q g) (rpL m f).n ≠ [],
 swS (fun i => entOf (entF (fun i => entOf (entF (rpL m f).E (0 + i))) (0 + i))) (swP q g) (rpL m f).n = [],
 (!sameB (rpL m f).n (rpL m f).n 0 0 (entF fun i => entOf (entF (rpL m f).E (0 + i))) (entF (rpL m f).E)) = false,
 0 + (rpL m f).n ≤ (rpL m f).n,
 0 + (rpL m f).n ≤ (rpL m f).n,
 (rpL m f).n ≤ 1000000,
 (rpL m f).n ≤ (rpL m f).n,
 (rpL m f).n ≤ 1000000,
 0 < (rpL m f).n,
 (rpL m f).n ≤ (rpL m f).n,
 (rpL m f).n ≤ 1000000,
 0 < (rpL m f).n,
 (rpL m f).n ≤ (rpL m f).n,
 (rpL m f).n ≤ 1000000,
 0 < (rpL m f).n,
 paLB m q f g (rpL m f).n (rpL m f).E (rpL m f).M,
 decide (Int.ofNat q > 200) = false,
 decide (Int.ofNat m > 100) = false], true) := by kernel_rfl
theorem rq01_1 (m q : Nat) (f g : Nat → Nat → AV) : (callF ERp 6000 3 [AV.ss 6 1 0 m none, AV.ss 1 2 0 q none] ⟨[(1, AO.arr 6 eSh true m f), (2, AO.arr 1 [CK.bool] true q g)], 3, gnm 0, [Hint.b false, Hint.b false, Hint.lp [0, 1, 4, 5, 6] (Ex.exit 0) (paXB m q f g (rpL m f).n (rpL m f).E (rpL m f).M).tmps (paXB m q f g (rpL m f).n (rpL m f).E (rpL m f).M).hp.heap 6 [3], Hint.b false, Hint.n 2, Hint.lp [1, 4, 5, 7, 8, 9, 10, 11, 12] (Ex.exit 2) (pcX01 q (rpL m f).n g (rpL m f).E (rpG m q f g) (rpS m q f g) (rpM m q f g)).tmps (pcX01 q (rpL m f).n g (rpL m f).E (rpG m q f g) (rpS m q f g) (rpM m q f g)).hp.heap 12 [5, 3], Hint.b false, Hint.b false, Hint.b false, Hint.a AV.top, Hint.lpl [4, 5, 7, 14, 15] [3, 6] 0 (Ex.exit 7) (peX (rpL m f).n (rpL m f).n).tmps (peX (rpL m f).n (rpL m f).n).hp.heap 1 [], Hint.n 1, Hint.b true], [], [], false⟩).map (fun x => (x.1, x.2.ob, noneIn [(1, AO.arr 6 eSh true m f), (2, AO.arr 1 [CK.bool] true q g)] x.2.wr)) =
 some (AV.bool true, [(Int.ofNat (swG (fun i => entOf (entF (entAt (rpS m q f g)) (0 + i))) (swP (rpL m f).n evF) (rpS m q f g).length).length == Int.ofNat (rpL m f).n) = true,
 (rpS m q f g).length ≤ (rpS m q f g).length,
 (rpS m q f g).length ≤ 1000000,
 (rpL m f).n ≤ (rpL m f).n,
 (rpL m f).n ≤ 1000000,
 swG (fun i => entOf (entF (entAt (rpS m q f g)) (0 + i))) (swP (rpL m f).n evF) (rpS m q f g).length ≠ [],
 swS (fun i => entOf (entF (entAt (rpS m q f g)) (0 + i))) (swP (rpL m f).n evF) (rpS m q f g).length = [],
 peLP (rpL m f).n,
 (Int.ofNat (rpS m q f g).length != Int.ofNat (rpS m q f g).length) = false,
 (Int.ofNat (rpS m q f g).length != Int.ofNat (rpS m q f g).length) = false,
 (Int.ofNat (rpG m q f g).length != 0) = false,
 pcLP01 m q (rpL m f).n f g (rpL m f).E (rpE m f) (rpG m q f g) (rpS m q f g) (rpM m q f g),
 (swS (fun i => entOf (entF (fun i => entOf (entF (rpL m f).E (0 + i))) (0 + i))) (swP q g) (rpL m f).n).length ≤ (swS (fun i => entOf (entF (fun i => entOf (entF (rpL m f).E (0 + i))) (0 + i))) (swP q g) (rpL m f).n).length,
 (swS (fun i => entOf (entF (fun i => entOf (entF (rpL m f).E (0 + i))) (0 + i))) (swP q g) (rpL m f).n).length ≤ 1000000,
 0 < (swS (fun i => entOf (entF (fun i => entOf (entF (rpL m f).E (0 + i))) (0 + i))) (swP q g) (rpL m f).n).length,
 (rpL m f).n ≤ (rpL m f).n,
 (rpL m f).n ≤ 1000000,
 q ≤ q,
 q ≤ 1000000,
 swG (fun i => entOf (entF (fun i => entOf (entF (rpL m f).E (0 + i))) (0 + i))) (swP q g) (rpL m f).n = [],
 swS (fun i => entOf (entF (fun i => entOf (entF (rpL m f).E (0 + i))) (0 + i))) (swP q g) (rpL m f).n ≠ [],
 (!sameB (rpL m f).n (rpL m f).n 0 0 (entF fun i => entOf (entF (rpL m f).E (0 + i))) (entF (rpL m f).E)) = false,
 0 + (rpL m f).n ≤ (rpL m f).n,
 0 + (rpL m f).n ≤ (rpL m f).n,
 (rpL m f).n ≤ 1000000,
 (rpL m f).n ≤ (rpL m f).n,
 (rpL m f).n ≤ 1000000,
 0 < (rpL m f).n,
 (rpL m f).n ≤ (rpL m f).n,
 (rpL m f).n ≤ 1000000,
 0 < (rpL m f).n,
 (rpL m f).n ≤ (rpL m f).n,
 (rpL m f).n ≤ 1000000,
 0 < (rpL m f).n,
 paLB m q f g (rpL m f).n (rpL m f).E (rpL m f).M,
 decide (Int.ofNat q > 200) = false,
 decide (Int.ofNat m > 100) = false], true) := by kernel_rfl
theorem rp_runs (m q : Nat) (f g : Nat → Nat → AV) : Runs (rpRun m q f g) := by
  by_cases hm : m > 100
  ·
    refine ⟨_, _, _, rqg1_1 m q f g, .inl rfl, (ob_cons ?_ ob_nil)⟩
    ·
      first | with_reducible assumption | exact hlA | exact hlB | exact pe_lp _ (by omega) | exact hC | exact hD | exact hsame | exact bne_self_eq_false _ | exact hall | exact fin_eq hall hk | exact fin_ne hall hkp | exact (swG_all _ hall).2 | exact hGne | exact hSne | exact hG0 | exact hS0 | exact hSle | exact hSpos | exact hRle | (rw [hG0]; rfl) | (rw [hS0]; rfl) | (simp; omega) | omega | (apply Nat.ble_eq_true_of_le; omega) | (simp [Nat.blt_eq]; omega)
  by_cases hq : q > 200
  ·
    refine ⟨_, _, _, rqg2_1 m q f g, .inl rfl, (ob_cons ?_ (ob_cons ?_ ob_nil))⟩
    ·
      first | with_reducible assumption | exact hlA | exact hlB | exact pe_lp _ (by omega) | exact hC | exact hD | exact hsame | exact bne_self_eq_false _ | exact hall | exact fin_eq hall hk | exact fin_ne hall hkp | exact (swG_all _ hall).2 | exact hGne | exact hSne | exact hG0 | exact hS0 | exact hSle | exact hSpos | exact hRle | (rw [hG0]; rfl) | (rw [hS0]; rfl) | (simp; omega) | omega | (apply Nat.ble_eq_true_of_le; omega) | (simp [Nat.blt_eq]; omega)
    ·
      first | with_reducible assumption | exact hlA | exact hlB | exact pe_lp _ (by omega) | exact hC | exact hD | exact hsame | exact bne_self_eq_false _ | exact hall | exact fin_eq hall hk | exact fin_ne hall hkp | exact (swG_all _ hall).2 | exact hGne | exact hSne | exact hG0 | exact hS0 | exact hSle | exact hSpos | exact hRle | (rw [hG0]; rfl) | (rw [hS0]; rfl) | (simp; omega) | omega | (apply Nat.ble_eq_true_of_le; omega) | (simp [Nat.blt_eq]; omega)
  by_cases h0 : (rpL m f).n = 0
  · have hlA : paLA m q f g := pa_lpA m q f g (by omega) h0
    refine ⟨_, _, _, rq00_1 m q f g, .inl rfl, (ob_cons ?_ (ob_cons ?_ (ob_cons ?_ ob_nil)))⟩
    ·
      first | with_reducible assumption | exact hlA | exact hlB | exact pe_lp _ (by omega) | exact hC | exact hD | exact hsame | exact bne_self_eq_false _ | exact hall | exact fin_eq hall hk | exact fin_ne hall hkp | exact (swG_all _ hall).2 | exact hGne | exact hSne | exact hG0 | exact hS0 | exact hSle | exact hSpos | exact hRle | (rw [hG0]; rfl) | (rw [hS0]; rfl) | (simp; omega) | omega | trivial
    ·
      first | with_reducible assumption | exact hlA | exact hlB | exact pe_lp _ (by omega) | exact hC | exact hD | exact hsame | exact bne_self_eq_false _ | exact hall | exact fin_eq hall hk | exact fin_ne hall hkp | exact (swG_all _ hall).2 | exact hGne | exact hSne | exact hG0 | exact hS0 | exact hSle | exact hSpos | exact hRle | (rw [hG0]; rfl) | (rw [hS0]; rfl) | (simp; omega) | omega | (apply Nat.ble_eq_true_of_le; omega) | (simp [Nat.blt_eq]; omega)
    ·
      first | with_reducible assumption | exact hlA | exact hlB | exact pe_lp _ (by omega) | exact hC | exact hD | exact hsame | exact bne_self_eq_false _ | exact hall | exact fin_eq hall hk | exact fin_ne hall hkp | exact (swG_all _ hall).2 | exact hGne | exact hSne | exact hG0 | exact hS0 | exact hSle | exact hSpos | exact hRle | (rw [hG0]; rfl) | (rw [hS0]; rfl) | (simp; omega) | omega | (apply Nat.ble_eq_true_of_le; omega) | (simp [Nat.blt_eq]; omega)
  have hn : (rpL m f).n ≤ m := lsN_le _ _
  have hlB : paLB m q f g (rpL m f).n (rpL m f).E (rpL m f).M := pa_lpB m q f g (by omega) (Nat.pos_of_ne_zero h0)
  have hGe : rpG m q f g = swG (rpL m f).E (swP q g) (rpL m f).n := by unfold rpG; rw [rpD_eq]
  have hSe : rpS m q f g = swS (rpL m f).E (swP q g) (rpL m f).n := by unfold rpS; rw [rpD_eq]
  have hMe : rpM m q f g = swM (rpL m f).M (rpL m f).E (swP q g) (rpL m f).n := by unfold rpM; rw [rpD_eq]
  have hsum : (rpS m q f g).length + (rpG m q f g).length = (rpL m f).n := by rw [hGe, hSe]; exact sw_sum _ _ _
  have huq : Uq (rpL m f).n (rpL m f).E := (lsN_inv (inE f) m).uq
  have hGu : Uq (rpG m q f g).length (entAt (rpG m q f g)) := by rw [hGe]; exact swG_uq _ _ huq _ (Nat.le_refl _)
  have hgone : ∀ j, j < (rpG m q f g).length → mget (rpM m q f g) (eKey (entAt (rpG m q f g) j)) = 0 := by rw [hGe, hMe]; exact swM_gone _ _ _ _
  have hAd := re2_add (s := ⟨(rpS m q f g).length, entAt (rpS m q f g), rpM m q f g⟩) hGu hgone
  have hNd := fun j hj => (re2_ok (s := ⟨(rpS m q f g).length, entAt (rpS m q f g), rpM m q f g⟩) hGu hgone j hj).1
  have hRn : (rpR m q f g).n = (rpL m f).n := by have := hNd _ (Nat.le_refl _); show (reTwo _ _ _).n = _; rw [this]; show (rpS m q f g).length + _ = _; omega
  have hSle : (rpS m q f g).length ≤ 1000000 := by omega
  have hRle : (rpR m q f g).n ≤ 1000000 := by omega
  have hall0 : ∀ i, i < (rpL m f).n → swP (rpL m f).n evF i = true := fun i hi => by unfold swP; rw [decide_eq_true hi]; rfl
  have hsame : (!sameB (rpL m f).n (rpL m f).n 0 0 (entF fun i => entOf (entF (rpL m f).E (0 + i))) (entF (rpL m f).E)) = false := by
    have : (fun i => entOf (entF (rpL m f).E (0 + i))) = (rpL m f).E := rpE_eq m f
    rw [this]; exact same_self _ _
  by_cases hG0 : rpG m q f g = []
  · have hSpos : 0 < (rpS m q f g).length := by have : (rpG m q f g).length = 0 := by rw [hG0]; rfl
                                                omega
    have hSne : rpS m q f g ≠ [] := fun e => by rw [e] at hSpos; exact absurd hSpos (Nat.lt_irrefl 0)
    have hk : (rpS m q f g).length = (rpL m f).n := by have : (rpG m q f g).length = 0 := by rw [hG0]; rfl
                                                       omega
    have hall : ∀ i, i < (rpS m q f g).length → swP (rpL m f).n evF i = true := fun i hi => hall0 i (by omega)
    have hkp := hSpos
    have hC := pc_lp01 m q (rpL m f).n f g (rpL m f).E (rpE m f) (rpG m q f g) (rpS m q f g) (rpM m q f g) hGe hSe hG0 (by omega)
    refine ⟨_, _, _, rq01_1 m q f g, .inl rfl, (ob_cons ?_ (ob_cons (Nat.le_refl _) (ob_cons ?_ (ob_cons (Nat.le_refl _) (ob_cons ?_ (ob_cons ?_ (ob_cons ?_ (ob_cons ?_ (ob_cons ?_ (ob_cons ?_ (ob_cons ?_ (ob_cons ?_ (ob_cons (Nat.le_refl _) (ob_cons ?_ (ob_cons ?_ (ob_cons (Nat.le_refl _) (ob_cons ?_ (ob_cons (Nat.le_refl _) (ob_cons ?_ (ob_cons ?_ (ob_cons ?_ (ob_cons ?_ (ob_cons ?_ (ob_cons ?_ (ob_cons ?_ (ob_cons (Nat.le_refl _) (ob_cons ?_ (ob_cons ?_ (ob_cons (Nat.le_refl _) (ob_cons ?_ (ob_cons ?_ (ob_cons (Nat.le_refl _) (ob_cons ?_ (ob_cons ?_ (ob_cons ?_ (ob_cons ?_ (ob_cons ?_ ob_nil)))))))))))))))))))))))))))))))))))))⟩
    ·
      first | with_reducible assumption | exact hlA | exact hlB | exact pe_lp _ (by omega) | exact hC | exact hD | exact hsame | exact bne_self_eq_false _ | exact hall | exact fin_eq hall hk | exact fin_ne hall hkp | exact (swG_all _ hall).2 | exact hGne | exact hSne | exact hG0 | exact hS0 | exact hSle | exact hSpos | exact hRle | (rw [hG0]; rfl) | (rw [hS0]; rfl) | (simp; omega) | omega | (apply Nat.ble_eq_true_of_le; omega) | (simp [Nat.blt_eq]; omega)
    ·
      first | with_reducible assumption | exact hlA | exact hlB | exact pe_lp _ (by omega) | exact hC | exact hD | exact hsame | exact bne_self_eq_false _ | exact hall | exact fin_eq hall hk | exact fin_ne hall hkp | exact (swG_all _ hall).2 | exact hGne | exact hSne | exact hG0 | exact hS0 | exact hSle | exact hSpos | exact hRle | (rw [hG0]; rfl) | (rw [hS0]; rfl) | (simp; omega) | omega | exact Nat.le_refl _ | omega
    ·
      first | with_reducible assumption | exact hlA | exact hlB | exact pe_lp _ (by omega) | exact hC | exact hD | exact hsame | exact bne_self_eq_false _ | exact hall | exact fin_eq hall hk | exact fin_ne hall hkp | exact (swG_all _ hall).2 | exact hGne | exact hSne | exact hG0 | exact hS0 | exact hSle | exact hSpos | exact hRle | (rw [hG0]; rfl) | (rw [hS0]; rfl) | (simp; omega) | omega | exact Nat.le_refl _ | omega
    ·
      first | with_reducible assumption | exact hlA | exact hlB | exact pe_lp _ (by omega) | exact hC | exact hD | exact hsame | exact bne_self_eq_false _ | exact hall | exact fin_eq hall hk | exact fin_ne hall hkp | exact (swG_all _ hall).2 | exact hGne | exact hSne | exact hG0 | exact hS0 | exact hSle | exact hSpos | exact hRle | (rw [hG0]; rfl) | (rw [hS0]; rfl) | (simp; omega) | omega | trivial
    ·
      first | with_reducible assumption | exact hlA | exact hlB | exact pe_lp _ (by omega) | exact hC | exact hD | exact hsame | exact bne_self_eq_false _ | exact hall | exact fin_eq hall hk | exact fin_ne hall hkp | exact (swG_all _ hall).2 | exact hGne | exact hSne | exact hG0 | exact hS0 | exact hSle | exact hSpos | exact hRle | (rw [hG0]; rfl) | (rw [hS0]; rfl) | (simp; omega) | omega | rfl
    ·
      first | with_reducible assumption | exact hlA | exact hlB | exact pe_lp _ (by omega) | exact hC | exact hD | exact hsame | exact bne_self_eq_false _ | exact hall | exact fin_eq hall hk | exact fin_ne hall hkp | exact (swG_all _ hall).2 | exact hGne | exact hSne | exact hG0 | exact hS0 | exact hSle | exact hSpos | exact hRle | (rw [hG0]; rfl) | (rw [hS0]; rfl) | (simp; omega) | omega | trivial
    ·
      first | with_reducible assumption | exact hlA | exact hlB | exact pe_lp _ (by omega) | exact hC | exact hD | exact hsame | exact bne_self_eq_false _ | exact hall | exact fin_eq hall hk | exact fin_ne hall hkp | exact (swG_all _ hall).2 | exact hGne | exact hSne | exact hG0 | exact hS0 | exact hSle | exact hSpos | exact hRle | (rw [hG0]; rfl) | (rw [hS0]; rfl) | (simp; omega) | omega | (apply Nat.ble_eq_true_of_le; omega) | (simp [Nat.blt_eq]; omega)
    ·
      first | with_reducible assumption | exact hlA | exact hlB | exact pe_lp _ (by omega) | exact hC | exact hD | exact hsame | exact bne_self_eq_false _ | exact hall | exact fin_eq hall hk | exact fin_ne hall hkp | exact (swG_all _ hall).2 | exact hGne | exact hSne | exact hG0 | exact hS0 | exact hSle | exact hSpos | exact hRle | (rw [hG0]; rfl) | (rw [hS0]; rfl) | (simp; omega) | omega | (apply Nat.ble_eq_true_of_le; omega) | (simp [Nat.blt_eq]; omega)
    ·
      first | with_reducible assumption | exact hlA | exact hlB | exact pe_lp _ (by omega) | exact hC | exact hD | exact hsame | exact bne_self_eq_false _ | exact hall | exact fin_eq hall hk | exact fin_ne hall hkp | exact (swG_all _ hall).2 | exact hGne | exact hSne | exact hG0 | exact hS0 | exact hSle | exact hSpos | exact hRle | (rw [hG0]; rfl) | (rw [hS0]; rfl) | (simp; omega) | omega | (apply Nat.ble_eq_true_of_le; omega) | (simp [Nat.blt_eq]; omega)
    ·
      first | with_reducible assumption | exact hlA | exact hlB | exact pe_lp _ (by omega) | exact hC | exact hD | exact hsame | exact bne_self_eq_false _ | exact hall | exact fin_eq hall hk | exact fin_ne hall hkp | exact (swG_all _ hall).2 | exact hGne | exact hSne | exact hG0 | exact hS0 | exact hSle | exact hSpos | exact hRle | (rw [hG0]; rfl) | (rw [hS0]; rfl) | (simp; omega) | omega | trivial
    ·
      first | with_reducible assumption | exact hlA | exact hlB | exact pe_lp _ (by omega) | exact hC | exact hD | exact hsame | exact bne_self_eq_false _ | exact hall | exact fin_eq hall hk | exact fin_ne hall hkp | exact (swG_all _ hall).2 | exact hGne | exact hSne | exact hG0 | exact hS0 | exact hSle | exact hSpos | exact hRle | (rw [hG0]; rfl) | (rw [hS0]; rfl) | (simp; omega) | omega | exact Nat.le_refl _ | omega
    ·
      first | with_reducible assumption | exact hlA | exact hlB | exact pe_lp _ (by omega) | exact hC | exact hD | exact hsame | exact bne_self_eq_false _ | exact hall | exact fin_eq hall hk | exact fin_ne hall hkp | exact (swG_all _ hall).2 | exact hGne | exact hSne | exact hG0 | exact hS0 | exact hSle | exact hSpos | exact hRle | (rw [hG0]; rfl) | (rw [hS0]; rfl) | (simp; omega) | omega | omega
    ·
      first | with_reducible assumption | exact hlA | exact hlB | exact pe_lp _ (by omega) | exact hC | exact hD | exact hsame | exact bne_self_eq_false _ | exact hall | exact fin_eq hall hk | exact fin_ne hall hkp | exact (swG_all _ hall).2 | exact hGne | exact hSne | exact hG0 | exact hS0 | exact hSle | exact hSpos | exact hRle | (rw [hG0]; rfl) | (rw [hS0]; rfl) | (simp; omega) | omega | exact Nat.le_refl _ | omega
    ·
      first | with_reducible assumption | exact hlA | exact hlB | exact pe_lp _ (by omega) | exact hC | exact hD | exact hsame | exact bne_self_eq_false _ | exact hall | exact fin_eq hall hk | exact fin_ne hall hkp | exact (swG_all _ hall).2 | exact hGne | exact hSne | exact hG0 | exact hS0 | exact hSle | exact hSpos | exact hRle | (rw [hG0]; rfl) | (rw [hS0]; rfl) | (simp; omega) | omega | exact Nat.le_refl _ | omega
    ·
      first | with_reducible assumption | exact hlA | exact hlB | exact pe_lp _ (by omega) | exact hC | exact hD | exact hsame | exact bne_self_eq_false _ | exact hall | exact fin_eq hall hk | exact fin_ne hall hkp | exact (swG_all _ hall).2 | exact hGne | exact hSne | exact hG0 | exact hS0 | exact hSle | exact hSpos | exact hRle | (rw [hG0]; rfl) | (rw [hS0]; rfl) | (simp; omega) | omega | rfl
    ·
      first | with_reducible assumption | exact hlA | exact hlB | exact pe_lp _ (by omega) | exact hC | exact hD | exact hsame | exact bne_self_eq_false _ | exact hall | exact fin_eq hall hk | exact fin_ne hall hkp | exact (swG_all _ hall).2 | exact hGne | exact hSne | exact hG0 | exact hS0 | exact hSle | exact hSpos | exact hRle | (rw [hG0]; rfl) | (rw [hS0]; rfl) | (simp; omega) | omega | trivial
    ·
      first | with_reducible assumption | exact hlA | exact hlB | exact pe_lp _ (by omega) | exact hC | exact hD | exact hsame | exact bne_self_eq_false _ | exact hall | exact fin_eq hall hk | exact fin_ne hall hkp | exact (swG_all _ hall).2 | exact hGne | exact hSne | exact hG0 | exact hS0 | exact hSle | exact hSpos | exact hRle | (rw [hG0]; rfl) | (rw [hS0]; rfl) | (simp; omega) | omega | (apply Nat.ble_eq_true_of_le; omega) | (simp [Nat.blt_eq]; omega)
    ·
      first | with_reducible assumption | exact hlA | exact hlB | exact pe_lp _ (by omega) | exact hC | exact hD | exact hsame | exact bne_self_eq_false _ | exact hall | exact fin_eq hall hk | exact fin_ne hall hkp | exact (swG_all _ hall).2 | exact hGne | exact hSne | exact hG0 | exact hS0 | exact hSle | exact hSpos | exact hRle | (rw [hG0]; rfl) | (rw [hS0]; rfl) | (simp; omega) | omega | exact Nat.le_refl _ | omega
    ·
      first | with_reducible assumption | exact hlA | exact hlB | exact pe_lp _ (by omega) | exact hC | exact hD | exact hsame | exact bne_self_eq_false _ | exact hall | exact fin_eq hall hk | exact fin_ne hall hkp | exact (swG_all _ hall).2 | exact hGne | exact hSne | exact hG0 | exact hS0 | exact hSle | exact hSpos | exact hRle | (rw [hG0]; rfl) | (rw [hS0]; rfl) | (simp; omega) | omega | exact Nat.le_refl _ | omega
    ·
      first | with_reducible assumption | exact hlA | exact hlB | exact pe_lp _ (by omega) | exact hC | exact hD | exact hsame | exact bne_self_eq_false _ | exact hall | exact fin_eq hall hk | exact fin_ne hall hkp | exact (swG_all _ hall).2 | exact hGne | exact hSne | exact hG0 | exact hS0 | exact hSle | exact hSpos | exact hRle | (rw [hG0]; rfl) | (rw [hS0]; rfl) | (simp; omega) | omega | exact Nat.le_refl _ | omega
    ·
      first | with_reducible assumption | exact hlA | exact hlB | exact pe_lp _ (by omega) | exact hC | exact hD | exact hsame | exact bne_self_eq_false _ | exact hall | exact fin_eq hall hk | exact fin_ne hall hkp | exact (swG_all _ hall).2 | exact hGne | exact hSne | exact hG0 | exact hS0 | exact hSle | exact hSpos | exact hRle | (rw [hG0]; rfl) | (rw [hS0]; rfl) | (simp; omega) | omega | exact Nat.le_refl _ | omega
    ·
      first | with_reducible assumption | exact hlA | exact hlB | exact pe_lp _ (by omega) | exact hC | exact hD | exact hsame | exact bne_self_eq_false _ | exact hall | exact fin_eq hall hk | exact fin_ne hall hkp | exact (swG_all _ hall).2 | exact hGne | exact hSne | exact hG0 | exact hS0 | exact hSle | exact hSpos | exact hRle | (rw [hG0]; rfl) | (rw [hS0]; rfl) | (simp; omega) | omega | omega
    ·
      first | with_reducible assumption | exact hlA | exact hlB | exact pe_lp _ (by omega) | exact hC | exact hD | exact hsame | exact bne_self_eq_false _ | exact hall | exact fin_eq hall hk | exact fin_ne hall hkp | exact (swG_all _ hall).2 | exact hGne | exact hSne | exact hG0 | exact hS0 | exact hSle | exact hSpos | exact hRle | (rw [hG0]; rfl) | (rw [hS0]; rfl) | (simp; omega) | omega | exact Nat.le_refl _ | omega
    ·
      first | with_reducible assumption | exact hlA | exact hlB | exact pe_lp _ (by omega) | exact hC | exact hD | exact hsame | exact bne_self_eq_false _ | exact hall | exact fin_eq hall hk | exact fin_ne hall hkp | exact (swG_all _ hall).2 | exact hGne | exact hSne | exact hG0 | exact hS0 | exact hSle | exact hSpos | exact hRle | (rw [hG0]; rfl) | (rw [hS0]; rfl) | (simp; omega) | omega | omega
    ·
      first | with_reducible assumption | exact hlA | exact hlB | exact pe_lp _ (by omega) | exact hC | exact hD | exact hsame | exact bne_self_eq_false _ | exact hall | exact fin_eq hall hk | exact fin_ne hall hkp | exact (swG_all _ hall).2 | exact hGne | exact hSne | exact hG0 | exact hS0 | exact hSle | exact hSpos | exact hRle | (rw [hG0]; rfl) | (rw [hS0]; rfl) | (simp; omega) | omega | exact Nat.le_refl _ | omega
    ·
      first | with_reducible assumption | exact hlA | exact hlB | exact pe_lp _ (by omega) | exact hC | exact hD | exact hsame | exact bne_self_eq_false _ | exact hall | exact fin_eq hall hk | exact fin_ne hall hkp | exact (swG_all _ hall).2 | exact hGne | exact hSne | exact hG0 | exact hS0 | exact hSle | exact hSpos | exact hRle | (rw [hG0]; rfl) | (rw [hS0]; rfl) | (simp; omega) | omega | omega
    ·
      first | with_reducible assumption | exact hlA | exact hlB | exact pe_lp _ (by omega) | exact hC | exact hD | exact hsame | exact bne_self_eq_false _ | exact hall | exact fin_eq hall hk | exact fin_ne hall hkp | exact (swG_all _ hall).2 | exact hGne | exact hSne | exact hG0 | exact hS0 | exact hSle | exact hSpos | exact hRle | (rw [hG0]; rfl) | (rw [hS0]; rfl) | (simp; omega) | omega | trivial
    ·
      first | with_reducible assumption | exact hlA | exact hlB | exact pe_lp _ (by omega) | exact hC | exact hD | exact hsame | exact bne_self_eq_false _ | exact hall | exact fin_eq hall hk | exact fin_ne hall hkp | exact (swG_all _ hall).2 | exact hGne | exact hSne | exact hG0 | exact hS0 | exact hSle | exact hSpos | exact hRle | (rw [hG0]; rfl) | (rw [hS0]; rfl) | (simp; omega) | omega | (apply Nat.ble_eq_true_of_le; omega) | (simp [Nat.blt_eq]; omega)
    ·
      first | with_reducible assumption | exact hlA | exact hlB | exact pe_lp _ (by omega) | exact hC | exact hD | exact hsame | exact bne_self_eq_false _ | exact hall | exact fin_eq hall hk | exact fin_ne hall hkp | exact (swG_all _ hall).2 | exact hGne | exact hSne | exact hG0 | exact hS0 | exact hSle | exact hSpos | exact hRle | (rw [hG0]; rfl) | (rw [hS0]; rfl) | (simp; omega) | omega | (apply Nat.ble_eq_true_of_le; omega) | (simp [Nat.blt_eq]; omega)
  · have hGne : rpG m q f g ≠ [] := hG0
    have hall : ∀ i, i < (rpR m q f g).n → swP (rpL m f).n evF i = true := fun i hi => hall0 i (by omega)
    have hk := hRn
    have hkp : 0 < (rpR m q f g).n := by omega
    by_cases hS0 : rpS m q f g = []
    · have hC := pc_lp10 m q (rpL m f).n f g (rpL m f).E (rpE m f) (rpG m q f g) (rpS m q f g) (rpM m q f g) hGe hSe hS0 (by omega)
      have hD := pd10_lp (rpL m f).n (rpL m f).E (rpG m q f g) (rpS m q f g) (rpM m q f g) (by omega) (by omega) hAd hNd (by rw [hS0]; rfl)
      refine ⟨_, _, _, rq10_1 m q f g, .inl rfl, (ob_cons ?_ (ob_cons (Nat.le_refl _) (ob_cons ?_ (ob_cons (Nat.le_refl _) (ob_cons ?_ (ob_cons ?_ (ob_cons ?_ (ob_cons ?_ (ob_cons ?_ (ob_cons ?_ (ob_cons ?_ (ob_cons ?_ (ob_cons (Nat.le_refl _) (ob_cons ?_ (ob_cons (Nat.le_refl _) (ob_cons ?_ (ob_cons ?_ (ob_cons ?_ (ob_cons ?_ (ob_cons ?_ (ob_cons ?_ (ob_cons ?_ (ob_cons (Nat.le_refl _) (ob_cons ?_ (ob_cons ?_ (ob_cons (Nat.le_refl _) (ob_cons ?_ (ob_cons ?_ (ob_cons (Nat.le_refl _) (ob_cons ?_ (ob_cons ?_ (ob_cons ?_ (ob_cons ?_ (ob_cons ?_ ob_nil))))))))))))))))))))))))))))))))))⟩
      ·
        first | with_reducible assumption | exact hlA | exact hlB | exact pe_lp _ (by omega) | exact hC | exact hD | exact hsame | exact bne_self_eq_false _ | exact hall | exact fin_eq hall hk | exact fin_ne hall hkp | exact (swG_all _ hall).2 | exact hGne | exact hSne | exact hG0 | exact hS0 | exact hSle | exact hSpos | exact hRle | (rw [hG0]; rfl) | (rw [hS0]; rfl) | (simp; omega) | omega | (apply Nat.ble_eq_true_of_le; omega) | (simp [Nat.blt_eq]; omega)
      ·
        first | with_reducible assumption | exact hlA | exact hlB | exact pe_lp _ (by omega) | exact hC | exact hD | exact hsame | exact bne_self_eq_false _ | exact hall | exact fin_eq hall hk | exact fin_ne hall hkp | exact (swG_all _ hall).2 | exact hGne | exact hSne | exact hG0 | exact hS0 | exact hSle | exact hSpos | exact hRle | (rw [hG0]; rfl) | (rw [hS0]; rfl) | (simp; omega) | omega | exact Nat.le_refl _ | omega
      ·
        first | with_reducible assumption | exact hlA | exact hlB | exact pe_lp _ (by omega) | exact hC | exact hD | exact hsame | exact bne_self_eq_false _ | exact hall | exact fin_eq hall hk | exact fin_ne hall hkp | exact (swG_all _ hall).2 | exact hGne | exact hSne | exact hG0 | exact hS0 | exact hSle | exact hSpos | exact hRle | (rw [hG0]; rfl) | (rw [hS0]; rfl) | (simp; omega) | omega | exact Nat.le_refl _ | omega
      ·
        first | with_reducible assumption | exact hlA | exact hlB | exact pe_lp _ (by omega) | exact hC | exact hD | exact hsame | exact bne_self_eq_false _ | exact hall | exact fin_eq hall hk | exact fin_ne hall hkp | exact (swG_all _ hall).2 | exact hGne | exact hSne | exact hG0 | exact hS0 | exact hSle | exact hSpos | exact hRle | (rw [hG0]; rfl) | (rw [hS0]; rfl) | (simp; omega) | omega | trivial
      ·
        first | with_reducible assumption | exact hlA | exact hlB | exact pe_lp _ (by omega) | exact hC | exact hD | exact hsame | exact bne_self_eq_false _ | exact hall | exact fin_eq hall hk | exact fin_ne hall hkp | exact (swG_all _ hall).2 | exact hGne | exact hSne | exact hG0 | exact hS0 | exact hSle | exact hSpos | exact hRle | (rw [hG0]; rfl) | (rw [hS0]; rfl) | (simp; omega) | omega | rfl
      ·
        first | with_reducible assumption | exact hlA | exact hlB | exact pe_lp _ (by omega) | exact hC | exact hD | exact hsame | exact bne_self_eq_false _ | exact hall | exact fin_eq hall hk | exact fin_ne hall hkp | exact (swG_all _ hall).2 | exact hGne | exact hSne | exact hG0 | exact hS0 | exact hSle | exact hSpos | exact hRle | (rw [hG0]; rfl) | (rw [hS0]; rfl) | (simp; omega) | omega | trivial
      ·
        first | with_reducible assumption | exact hlA | exact hlB | exact pe_lp _ (by omega) | exact hC | exact hD | exact hsame | exact bne_self_eq_false _ | exact hall | exact fin_eq hall hk | exact fin_ne hall hkp | exact (swG_all _ hall).2 | exact hGne | exact hSne | exact hG0 | exact hS0 | exact hSle | exact hSpos | exact hRle | (rw [hG0]; rfl) | (rw [hS0]; rfl) | (simp; omega) | omega | trivial
      ·
        first | with_reducible assumption | exact hlA | exact hlB | exact pe_lp _ (by omega) | exact hC | exact hD | exact hsame | exact bne_self_eq_false _ | exact hall | exact fin_eq hall hk | exact fin_ne hall hkp | exact (swG_all _ hall).2 | exact hGne | exact hSne | exact hG0 | exact hS0 | exact hSle | exact hSpos | exact hRle | (rw [hG0]; rfl) | (rw [hS0]; rfl) | (simp; omega) | omega | (apply Nat.ble_eq_true_of_le; omega) | (simp [Nat.blt_eq]; omega)
      ·
        first | with_reducible assumption | exact hlA | exact hlB | exact pe_lp _ (by omega) | exact hC | exact hD | exact hsame | exact bne_self_eq_false _ | exact hall | exact fin_eq hall hk | exact fin_ne hall hkp | exact (swG_all _ hall).2 | exact hGne | exact hSne | exact hG0 | exact hS0 | exact hSle | exact hSpos | exact hRle | (rw [hG0]; rfl) | (rw [hS0]; rfl) | (simp; omega) | omega | (apply Nat.ble_eq_true_of_le; omega) | (simp [Nat.blt_eq]; omega)
      ·
        first | with_reducible assumption | exact hlA | exact hlB | exact pe_lp _ (by omega) | exact hC | exact hD | exact hsame | exact bne_self_eq_false _ | exact hall | exact fin_eq hall hk | exact fin_ne hall hkp | exact (swG_all _ hall).2 | exact hGne | exact hSne | exact hG0 | exact hS0 | exact hSle | exact hSpos | exact hRle | (rw [hG0]; rfl) | (rw [hS0]; rfl) | (simp; omega) | omega | trivial
      ·
        first | with_reducible assumption | exact hlA | exact hlB | exact pe_lp _ (by omega) | exact hC | exact hD | exact hsame | exact bne_self_eq_false _ | exact hall | exact fin_eq hall hk | exact fin_ne hall hkp | exact (swG_all _ hall).2 | exact hGne | exact hSne | exact hG0 | exact hS0 | exact hSle | exact hSpos | exact hRle | (rw [hG0]; rfl) | (rw [hS0]; rfl) | (simp; omega) | omega | exact Nat.le_refl _ | omega
      ·
        first | with_reducible assumption | exact hlA | exact hlB | exact pe_lp _ (by omega) | exact hC | exact hD | exact hsame | exact bne_self_eq_false _ | exact hall | exact fin_eq hall hk | exact fin_ne hall hkp | exact (swG_all _ hall).2 | exact hGne | exact hSne | exact hG0 | exact hS0 | exact hSle | exact hSpos | exact hRle | (rw [hG0]; rfl) | (rw [hS0]; rfl) | (simp; omega) | omega | exact Nat.le_refl _ | omega
      ·
        first | with_reducible assumption | exact hlA | exact hlB | exact pe_lp _ (by omega) | exact hC | exact hD | exact hsame | exact bne_self_eq_false _ | exact hall | exact fin_eq hall hk | exact fin_ne hall hkp | exact (swG_all _ hall).2 | exact hGne | exact hSne | exact hG0 | exact hS0 | exact hSle | exact hSpos | exact hRle | (rw [hG0]; rfl) | (rw [hS0]; rfl) | (simp; omega) | omega | trivial
      ·
        first | with_reducible assumption | exact hlA | exact hlB | exact pe_lp _ (by omega) | exact hC | exact hD | exact hsame | exact bne_self_eq_false _ | exact hall | exact fin_eq hall hk | exact fin_ne hall hkp | exact (swG_all _ hall).2 | exact hGne | exact hSne | exact hG0 | exact hS0 | exact hSle | exact hSpos | exact hRle | (rw [hG0]; rfl) | (rw [hS0]; rfl) | (simp; omega) | omega | rfl
      ·
        first | with_reducible assumption | exact hlA | exact hlB | exact pe_lp _ (by omega) | exact hC | exact hD | exact hsame | exact bne_self_eq_false _ | exact hall | exact fin_eq hall hk | exact fin_ne hall hkp | exact (swG_all _ hall).2 | exact hGne | exact hSne | exact hG0 | exact hS0 | exact hSle | exact hSpos | exact hRle | (rw [hG0]; rfl) | (rw [hS0]; rfl) | (simp; omega) | omega | (apply Nat.ble_eq_true_of_le; omega) | (simp [Nat.blt_eq]; omega)
      ·
        first | with_reducible assumption | exact hlA | exact hlB | exact pe_lp _ (by omega) | exact hC | exact hD | exact hsame | exact bne_self_eq_false _ | exact hall | exact fin_eq hall hk | exact fin_ne hall hkp | exact (swG_all _ hall).2 | exact hGne | exact hSne | exact hG0 | exact hS0 | exact hSle | exact hSpos | exact hRle | (rw [hG0]; rfl) | (rw [hS0]; rfl) | (simp; omega) | omega | exact Nat.le_refl _ | omega
      ·
        first | with_reducible assumption | exact hlA | exact hlB | exact pe_lp _ (by omega) | exact hC | exact hD | exact hsame | exact bne_self_eq_false _ | exact hall | exact fin_eq hall hk | exact fin_ne hall hkp | exact (swG_all _ hall).2 | exact hGne | exact hSne | exact hG0 | exact hS0 | exact hSle | exact hSpos | exact hRle | (rw [hG0]; rfl) | (rw [hS0]; rfl) | (simp; omega) | omega | exact Nat.le_refl _ | omega
      ·
        first | with_reducible assumption | exact hlA | exact hlB | exact pe_lp _ (by omega) | exact hC | exact hD | exact hsame | exact bne_self_eq_false _ | exact hall | exact fin_eq hall hk | exact fin_ne hall hkp | exact (swG_all _ hall).2 | exact hGne | exact hSne | exact hG0 | exact hS0 | exact hSle | exact hSpos | exact hRle | (rw [hG0]; rfl) | (rw [hS0]; rfl) | (simp; omega) | omega | exact Nat.le_refl _ | omega
      ·
        first | with_reducible assumption | exact hlA | exact hlB | exact pe_lp _ (by omega) | exact hC | exact hD | exact hsame | exact bne_self_eq_false _ | exact hall | exact fin_eq hall hk | exact fin_ne hall hkp | exact (swG_all _ hall).2 | exact hGne | exact hSne | exact hG0 | exact hS0 | exact hSle | exact hSpos | exact hRle | (rw [hG0]; rfl) | (rw [hS0]; rfl) | (simp; omega) | omega | exact Nat.le_refl _ | omega
      ·
        first | with_reducible assumption | exact hlA | exact hlB | exact pe_lp _ (by omega) | exact hC | exact hD | exact hsame | exact bne_self_eq_false _ | exact hall | exact fin_eq hall hk | exact fin_ne hall hkp | exact (swG_all _ hall).2 | exact hGne | exact hSne | exact hG0 | exact hS0 | exact hSle | exact hSpos | exact hRle | (rw [hG0]; rfl) | (rw [hS0]; rfl) | (simp; omega) | omega | omega
      ·
        first | with_reducible assumption | exact hlA | exact hlB | exact pe_lp _ (by omega) | exact hC | exact hD | exact hsame | exact bne_self_eq_false _ | exact hall | exact fin_eq hall hk | exact fin_ne hall hkp | exact (swG_all _ hall).2 | exact hGne | exact hSne | exact hG0 | exact hS0 | exact hSle | exact hSpos | exact hRle | (rw [hG0]; rfl) | (rw [hS0]; rfl) | (simp; omega) | omega | exact Nat.le_refl _ | omega
      ·
        first | with_reducible assumption | exact hlA | exact hlB | exact pe_lp _ (by omega) | exact hC | exact hD | exact hsame | exact bne_self_eq_false _ | exact hall | exact fin_eq hall hk | exact fin_ne hall hkp | exact (swG_all _ hall).2 | exact hGne | exact hSne | exact hG0 | exact hS0 | exact hSle | exact hSpos | exact hRle | (rw [hG0]; rfl) | (rw [hS0]; rfl) | (simp; omega) | omega | omega
      ·
        first | with_reducible assumption | exact hlA | exact hlB | exact pe_lp _ (by omega) | exact hC | exact hD | exact hsame | exact bne_self_eq_false _ | exact hall | exact fin_eq hall hk | exact fin_ne hall hkp | exact (swG_all _ hall).2 | exact hGne | exact hSne | exact hG0 | exact hS0 | exact hSle | exact hSpos | exact hRle | (rw [hG0]; rfl) | (rw [hS0]; rfl) | (simp; omega) | omega | exact Nat.le_refl _ | omega
      ·
        first | with_reducible assumption | exact hlA | exact hlB | exact pe_lp _ (by omega) | exact hC | exact hD | exact hsame | exact bne_self_eq_false _ | exact hall | exact fin_eq hall hk | exact fin_ne hall hkp | exact (swG_all _ hall).2 | exact hGne | exact hSne | exact hG0 | exact hS0 | exact hSle | exact hSpos | exact hRle | (rw [hG0]; rfl) | (rw [hS0]; rfl) | (simp; omega) | omega | omega
      ·
        first | with_reducible assumption | exact hlA | exact hlB | exact pe_lp _ (by omega) | exact hC | exact hD | exact hsame | exact bne_self_eq_false _ | exact hall | exact fin_eq hall hk | exact fin_ne hall hkp | exact (swG_all _ hall).2 | exact hGne | exact hSne | exact hG0 | exact hS0 | exact hSle | exact hSpos | exact hRle | (rw [hG0]; rfl) | (rw [hS0]; rfl) | (simp; omega) | omega | trivial
      ·
        first | with_reducible assumption | exact hlA | exact hlB | exact pe_lp _ (by omega) | exact hC | exact hD | exact hsame | exact bne_self_eq_false _ | exact hall | exact fin_eq hall hk | exact fin_ne hall hkp | exact (swG_all _ hall).2 | exact hGne | exact hSne | exact hG0 | exact hS0 | exact hSle | exact hSpos | exact hRle | (rw [hG0]; rfl) | (rw [hS0]; rfl) | (simp; omega) | omega | (apply Nat.ble_eq_true_of_le; omega) | (simp [Nat.blt_eq]; omega)
      ·
        first | with_reducible assumption | exact hlA | exact hlB | exact pe_lp _ (by omega) | exact hC | exact hD | exact hsame | exact bne_self_eq_false _ | exact hall | exact fin_eq hall hk | exact fin_ne hall hkp | exact (swG_all _ hall).2 | exact hGne | exact hSne | exact hG0 | exact hS0 | exact hSle | exact hSpos | exact hRle | (rw [hG0]; rfl) | (rw [hS0]; rfl) | (simp; omega) | omega | (apply Nat.ble_eq_true_of_le; omega) | (simp [Nat.blt_eq]; omega)
    · have hSne : rpS m q f g ≠ [] := hS0
      have hSpos : 0 < (rpS m q f g).length := List.length_pos_iff.2 hS0
      have hC := pc_lp11 m q (rpL m f).n f g (rpL m f).E (rpE m f) (rpG m q f g) (rpS m q f g) (rpM m q f g) hGe hSe (by omega)
      have hD := pd11_lp (rpL m f).n (rpL m f).E (rpG m q f g) (rpS m q f g) (rpM m q f g) (by omega) (by omega) hAd hNd
      refine ⟨_, _, _, rq11_1 m q f g, .inl rfl, (ob_cons ?_ (ob_cons (Nat.le_refl _) (ob_cons ?_ (ob_cons (Nat.le_refl _) (ob_cons ?_ (ob_cons ?_ (ob_cons ?_ (ob_cons ?_ (ob_cons ?_ (ob_cons ?_ (ob_cons ?_ (ob_cons ?_ (ob_cons ?_ (ob_cons (Nat.le_refl _) (ob_cons ?_ (ob_cons ?_ (ob_cons (Nat.le_refl _) (ob_cons ?_ (ob_cons (Nat.le_refl _) (ob_cons ?_ (ob_cons ?_ (ob_cons ?_ (ob_cons ?_ (ob_cons ?_ (ob_cons ?_ (ob_cons ?_ (ob_cons (Nat.le_refl _) (ob_cons ?_ (ob_cons ?_ (ob_cons (Nat.le_refl _) (ob_cons ?_ (ob_cons ?_ (ob_cons (Nat.le_refl _) (ob_cons ?_ (ob_cons ?_ (ob_cons ?_ (ob_cons ?_ (ob_cons ?_ ob_nil))))))))))))))))))))))))))))))))))))))⟩
      ·
        first | with_reducible assumption | exact hlA | exact hlB | exact pe_lp _ (by omega) | exact hC | exact hD | exact hsame | exact bne_self_eq_false _ | exact hall | exact fin_eq hall hk | exact fin_ne hall hkp | exact (swG_all _ hall).2 | exact hGne | exact hSne | exact hG0 | exact hS0 | exact hSle | exact hSpos | exact hRle | (rw [hG0]; rfl) | (rw [hS0]; rfl) | (simp; omega) | omega | (apply Nat.ble_eq_true_of_le; omega) | (simp [Nat.blt_eq]; omega)
      ·
        first | with_reducible assumption | exact hlA | exact hlB | exact pe_lp _ (by omega) | exact hC | exact hD | exact hsame | exact bne_self_eq_false _ | exact hall | exact fin_eq hall hk | exact fin_ne hall hkp | exact (swG_all _ hall).2 | exact hGne | exact hSne | exact hG0 | exact hS0 | exact hSle | exact hSpos | exact hRle | (rw [hG0]; rfl) | (rw [hS0]; rfl) | (simp; omega) | omega | exact Nat.le_refl _ | omega
      ·
        first | with_reducible assumption | exact hlA | exact hlB | exact pe_lp _ (by omega) | exact hC | exact hD | exact hsame | exact bne_self_eq_false _ | exact hall | exact fin_eq hall hk | exact fin_ne hall hkp | exact (swG_all _ hall).2 | exact hGne | exact hSne | exact hG0 | exact hS0 | exact hSle | exact hSpos | exact hRle | (rw [hG0]; rfl) | (rw [hS0]; rfl) | (simp; omega) | omega | exact Nat.le_refl _ | omega
      ·
        first | with_reducible assumption | exact hlA | exact hlB | exact pe_lp _ (by omega) | exact hC | exact hD | exact hsame | exact bne_self_eq_false _ | exact hall | exact fin_eq hall hk | exact fin_ne hall hkp | exact (swG_all _ hall).2 | exact hGne | exact hSne | exact hG0 | exact hS0 | exact hSle | exact hSpos | exact hRle | (rw [hG0]; rfl) | (rw [hS0]; rfl) | (simp; omega) | omega | trivial
      ·
        first | with_reducible assumption | exact hlA | exact hlB | exact pe_lp _ (by omega) | exact hC | exact hD | exact hsame | exact bne_self_eq_false _ | exact hall | exact fin_eq hall hk | exact fin_ne hall hkp | exact (swG_all _ hall).2 | exact hGne | exact hSne | exact hG0 | exact hS0 | exact hSle | exact hSpos | exact hRle | (rw [hG0]; rfl) | (rw [hS0]; rfl) | (simp; omega) | omega | rfl
      ·
        first | with_reducible assumption | exact hlA | exact hlB | exact pe_lp _ (by omega) | exact hC | exact hD | exact hsame | exact bne_self_eq_false _ | exact hall | exact fin_eq hall hk | exact fin_ne hall hkp | exact (swG_all _ hall).2 | exact hGne | exact hSne | exact hG0 | exact hS0 | exact hSle | exact hSpos | exact hRle | (rw [hG0]; rfl) | (rw [hS0]; rfl) | (simp; omega) | omega | trivial
      ·
        first | with_reducible assumption | exact hlA | exact hlB | exact pe_lp _ (by omega) | exact hC | exact hD | exact hsame | exact bne_self_eq_false _ | exact hall | exact fin_eq hall hk | exact fin_ne hall hkp | exact (swG_all _ hall).2 | exact hGne | exact hSne | exact hG0 | exact hS0 | exact hSle | exact hSpos | exact hRle | (rw [hG0]; rfl) | (rw [hS0]; rfl) | (simp; omega) | omega | trivial
      ·
        first | with_reducible assumption | exact hlA | exact hlB | exact pe_lp _ (by omega) | exact hC | exact hD | exact hsame | exact bne_self_eq_false _ | exact hall | exact fin_eq hall hk | exact fin_ne hall hkp | exact (swG_all _ hall).2 | exact hGne | exact hSne | exact hG0 | exact hS0 | exact hSle | exact hSpos | exact hRle | (rw [hG0]; rfl) | (rw [hS0]; rfl) | (simp; omega) | omega | (apply Nat.ble_eq_true_of_le; omega) | (simp [Nat.blt_eq]; omega)
      ·
        first | with_reducible assumption | exact hlA | exact hlB | exact pe_lp _ (by omega) | exact hC | exact hD | exact hsame | exact bne_self_eq_false _ | exact hall | exact fin_eq hall hk | exact fin_ne hall hkp | exact (swG_all _ hall).2 | exact hGne | exact hSne | exact hG0 | exact hS0 | exact hSle | exact hSpos | exact hRle | (rw [hG0]; rfl) | (rw [hS0]; rfl) | (simp; omega) | omega | (apply Nat.ble_eq_true_of_le; omega) | (simp [Nat.blt_eq]; omega)
      ·
        first | with_reducible assumption | exact hlA | exact hlB | exact pe_lp _ (by omega) | exact hC | exact hD | exact hsame | exact bne_self_eq_false _ | exact hall | exact fin_eq hall hk | exact fin_ne hall hkp | exact (swG_all _ hall).2 | exact hGne | exact hSne | exact hG0 | exact hS0 | exact hSle | exact hSpos | exact hRle | (rw [hG0]; rfl) | (rw [hS0]; rfl) | (simp; omega) | omega | (apply Nat.ble_eq_true_of_le; omega) | (simp [Nat.blt_eq]; omega)
      ·
        first | with_reducible assumption | exact hlA | exact hlB | exact pe_lp _ (by omega) | exact hC | exact hD | exact hsame | exact bne_self_eq_false _ | exact hall | exact fin_eq hall hk | exact fin_ne hall hkp | exact (swG_all _ hall).2 | exact hGne | exact hSne | exact hG0 | exact hS0 | exact hSle | exact hSpos | exact hRle | (rw [hG0]; rfl) | (rw [hS0]; rfl) | (simp; omega) | omega | trivial
      ·
        first | with_reducible assumption | exact hlA | exact hlB | exact pe_lp _ (by omega) | exact hC | exact hD | exact hsame | exact bne_self_eq_false _ | exact hall | exact fin_eq hall hk | exact fin_ne hall hkp | exact (swG_all _ hall).2 | exact hGne | exact hSne | exact hG0 | exact hS0 | exact hSle | exact hSpos | exact hRle | (rw [hG0]; rfl) | (rw [hS0]; rfl) | (simp; omega) | omega | exact Nat.le_refl _ | omega
      ·
        first | with_reducible assumption | exact hlA | exact hlB | exact pe_lp _ (by omega) | exact hC | exact hD | exact hsame | exact bne_self_eq_false _ | exact hall | exact fin_eq hall hk | exact fin_ne hall hkp | exact (swG_all _ hall).2 | exact hGne | exact hSne | exact hG0 | exact hS0 | exact hSle | exact hSpos | exact hRle | (rw [hG0]; rfl) | (rw [hS0]; rfl) | (simp; omega) | omega | omega
      ·
        first | with_reducible assumption | exact hlA | exact hlB | exact pe_lp _ (by omega) | exact hC | exact hD | exact hsame | exact bne_self_eq_false _ | exact hall | exact fin_eq hall hk | exact fin_ne hall hkp | exact (swG_all _ hall).2 | exact hGne | exact hSne | exact hG0 | exact hS0 | exact hSle | exact hSpos | exact hRle | (rw [hG0]; rfl) | (rw [hS0]; rfl) | (simp; omega) | omega | exact Nat.le_refl _ | omega
      ·
        first | with_reducible assumption | exact hlA | exact hlB | exact pe_lp _ (by omega) | exact hC | exact hD | exact hsame | exact bne_self_eq_false _ | exact hall | exact fin_eq hall hk | exact fin_ne hall hkp | exact (swG_all _ hall).2 | exact hGne | exact hSne | exact hG0 | exact hS0 | exact hSle | exact hSpos | exact hRle | (rw [hG0]; rfl) | (rw [hS0]; rfl) | (simp; omega) | omega | exact Nat.le_refl _ | omega
      ·
        first | with_reducible assumption | exact hlA | exact hlB | exact pe_lp _ (by omega) | exact hC | exact hD | exact hsame | exact bne_self_eq_false _ | exact hall | exact fin_eq hall hk | exact fin_ne hall hkp | exact (swG_all _ hall).2 | exact hGne | exact hSne | exact hG0 | exact hS0 | exact hSle | exact hSpos | exact hRle | (rw [hG0]; rfl) | (rw [hS0]; rfl) | (simp; omega) | omega | trivial
      ·
        first | with_reducible assumption | exact hlA | exact hlB | exact pe_lp _ (by omega) | exact hC | exact hD | exact hsame | exact bne_self_eq_false _ | exact hall | exact fin_eq hall hk | exact fin_ne hall hkp | exact (swG_all _ hall).2 | exact hGne | exact hSne | exact hG0 | exact hS0 | exact hSle | exact hSpos | exact hRle | (rw [hG0]; rfl) | (rw [hS0]; rfl) | (simp; omega) | omega | trivial
      ·
        first | with_reducible assumption | exact hlA | exact hlB | exact pe_lp _ (by omega) | exact hC | exact hD | exact hsame | exact bne_self_eq_false _ | exact hall | exact fin_eq hall hk | exact fin_ne hall hkp | exact (swG_all _ hall).2 | exact hGne | exact hSne | exact hG0 | exact hS0 | exact hSle | exact hSpos | exact hRle | (rw [hG0]; rfl) | (rw [hS0]; rfl) | (simp; omega) | omega | (apply Nat.ble_eq_true_of_le; omega) | (simp [Nat.blt_eq]; omega)
      ·
        first | with_reducible assumption | exact hlA | exact hlB | exact pe_lp _ (by omega) | exact hC | exact hD | exact hsame | exact bne_self_eq_false _ | exact hall | exact fin_eq hall hk | exact fin_ne hall hkp | exact (swG_all _ hall).2 | exact hGne | exact hSne | exact hG0 | exact hS0 | exact hSle | exact hSpos | exact hRle | (rw [hG0]; rfl) | (rw [hS0]; rfl) | (simp; omega) | omega | exact Nat.le_refl _ | omega
      ·
        first | with_reducible assumption | exact hlA | exact hlB | exact pe_lp _ (by omega) | exact hC | exact hD | exact hsame | exact bne_self_eq_false _ | exact hall | exact fin_eq hall hk | exact fin_ne hall hkp | exact (swG_all _ hall).2 | exact hGne | exact hSne | exact hG0 | exact hS0 | exact hSle | exact hSpos | exact hRle | (rw [hG0]; rfl) | (rw [hS0]; rfl) | (simp; omega) | omega | exact Nat.le_refl _ | omega
      ·
        first | with_reducible assumption | exact hlA | exact hlB | exact pe_lp _ (by omega) | exact hC | exact hD | exact hsame | exact bne_self_eq_false _ | exact hall | exact fin_eq hall hk | exact fin_ne hall hkp | exact (swG_all _ hall).2 | exact hGne | exact hSne | exact hG0 | exact hS0 | exact hSle | exact hSpos | exact hRle | (rw [hG0]; rfl) | (rw [hS0]; rfl) | (simp; omega) | omega | exact Nat.le_refl _ | omega
      ·
        first | with_reducible assumption | exact hlA | exact hlB | exact pe_lp _ (by omega) | exact hC | exact hD | exact hsame | exact bne_self_eq_false _ | exact hall | exact fin_eq hall hk | exact fin_ne hall hkp | exact (swG_all _ hall).2 | exact hGne | exact hSne | exact hG0 | exact hS0 | exact hSle | exact hSpos | exact hRle | (rw [hG0]; rfl) | (rw [hS0]; rfl) | (simp; omega) | omega | exact Nat.le_refl _ | omega
      ·
        first | with_reducible assumption | exact hlA | exact hlB | exact pe_lp _ (by omega) | exact hC | exact hD | exact hsame | exact bne_self_eq_false _ | exact hall | exact fin_eq hall hk | exact fin_ne hall hkp | exact (swG_all _ hall).2 | exact hGne | exact hSne | exact hG0 | exact hS0 | exact hSle | exact hSpos | exact hRle | (rw [hG0]; rfl) | (rw [hS0]; rfl) | (simp; omega) | omega | omega
      ·
        first | with_reducible assumption | exact hlA | exact hlB | exact pe_lp _ (by omega) | exact hC | exact hD | exact hsame | exact bne_self_eq_false _ | exact hall | exact fin_eq hall hk | exact fin_ne hall hkp | exact (swG_all _ hall).2 | exact hGne | exact hSne | exact hG0 | exact hS0 | exact hSle | exact hSpos | exact hRle | (rw [hG0]; rfl) | (rw [hS0]; rfl) | (simp; omega) | omega | exact Nat.le_refl _ | omega
      ·
        first | with_reducible assumption | exact hlA | exact hlB | exact pe_lp _ (by omega) | exact hC | exact hD | exact hsame | exact bne_self_eq_false _ | exact hall | exact fin_eq hall hk | exact fin_ne hall hkp | exact (swG_all _ hall).2 | exact hGne | exact hSne | exact hG0 | exact hS0 | exact hSle | exact hSpos | exact hRle | (rw [hG0]; rfl) | (rw [hS0]; rfl) | (simp; omega) | omega | omega
      ·
        first | with_reducible assumption | exact hlA | exact hlB | exact pe_lp _ (by omega) | exact hC | exact hD | exact hsame | exact bne_self_eq_false _ | exact hall | exact fin_eq hall hk | exact fin_ne hall hkp | exact (swG_all _ hall).2 | exact hGne | exact hSne | exact hG0 | exact hS0 | exact hSle | exact hSpos | exact hRle | (rw [hG0]; rfl) | (rw [hS0]; rfl) | (simp; omega) | omega | exact Nat.le_refl _ | omega
      ·
        first | with_reducible assumption | exact hlA | exact hlB | exact pe_lp _ (by omega) | exact hC | exact hD | exact hsame | exact bne_self_eq_false _ | exact hall | exact fin_eq hall hk | exact fin_ne hall hkp | exact (swG_all _ hall).2 | exact hGne | exact hSne | exact hG0 | exact hS0 | exact hSle | exact hSpos | exact hRle | (rw [hG0]; rfl) | (rw [hS0]; rfl) | (simp; omega) | omega | omega
      ·
        first | with_reducible assumption | exact hlA | exact hlB | exact pe_lp _ (by omega) | exact hC | exact hD | exact hsame | exact bne_self_eq_false _ | exact hall | exact fin_eq hall hk | exact fin_ne hall hkp | exact (swG_all _ hall).2 | exact hGne | exact hSne | exact hG0 | exact hS0 | exact hSle | exact hSpos | exact hRle | (rw [hG0]; rfl) | (rw [hS0]; rfl) | (simp; omega) | omega | trivial
      ·
        first | with_reducible assumption | exact hlA | exact hlB | exact pe_lp _ (by omega) | exact hC | exact hD | exact hsame | exact bne_self_eq_false _ | exact hall | exact fin_eq hall hk | exact fin_ne hall hkp | exact (swG_all _ hall).2 | exact hGne | exact hSne | exact hG0 | exact hS0 | exact hSle | exact hSpos | exact hRle | (rw [hG0]; rfl) | (rw [hS0]; rfl) | (simp; omega) | omega | (apply Nat.ble_eq_true_of_le; omega) | (simp [Nat.blt_eq]; omega)
      ·
        first | with_reducible assumption | exact hlA | exact hlB | exact pe_lp _ (by omega) | exact hC | exact hD | exact hsame | exact bne_self_eq_false _ | exact hall | exact fin_eq hall hk | exact fin_ne hall hkp | exact (swG_all _ hall).2 | exact hGne | exact hSne | exact hG0 | exact hS0 | exact hSle | exact hSpos | exact hRle | (rw [hG0]; rfl) | (rw [hS0]; rfl) | (simp; omega) | omega | (apply Nat.ble_eq_true_of_le; omega) | (simp [Nat.blt_eq]; omega)
theorem hown : ownKnob Try.prog.godebug = none := by kernel_rfl
theorem hlaidOut : laidOutB Try.prog = true := by kernel_rfl
theorem k34 : flatK Try.prog 4 34 = some eSh := by kernel_rfl
theorem k4 : flatK Try.prog 4 4 = some [.bool] := by kernel_rfl
set_option maxRecDepth 100000 in
theorem retiresParts_runs : LawRuns Try.prog 3 [22, 23] := by
  intro H enc W base args ds p hval hA
  obtain ⟨v0, v1, d0, d1, p0, p1, hargs, rfl, rfl, h0, h1⟩ := trodAll_two (args := args.toArray) hA
  obtain rfl : args = [v0, v1] := by simpa using congrArg Array.toList hargs
  obtain ⟨fuel0, h0⟩ := h0
  obtain ⟨c0, l0, q0, rfl⟩ := okWide_slice Try.underlying22 (hval 0 22 v0 rfl rfl)
  obtain ⟨L0, len0, num0, bit0, hw0, hs0, hl0, hm0, hn0, hob0, hwf0⟩ := open_rows Try.underlying22 k34 (by kernel_rfl) (by decide) (okWide_spot Try.underlying22 (hval 0 22 _ rfl rfl)) (by simpa [Value.cells] using h0)
  have hs0 : L0.slice 6 0 len0 none = some (.slice c0 l0 q0) := hs0
  obtain ⟨fuel1, h1⟩ := h1
  obtain ⟨c1, l1, q1, rfl⟩ := okWide_slice Try.underlying23 (hval 1 23 v1 rfl rfl)
  obtain ⟨L1, len1, num1, bit1, hw1, hs1, hl1, hm1, hn1, hob1, hwf1⟩ := open_rows Try.underlying23 k4 (by kernel_rfl) (by decide) (okWide_spot Try.underlying23 (hval 1 23 _ rfl rfl)) (by simpa [Value.cells] using h1)
  have hs1 : L1.slice 1 0 len1 none = some (.slice c1 l1 q1) := hs1
  obtain ⟨h, x, ob, hr, hx, hob⟩ := rp_runs len0 len1 (rowAV eSh num0 bit0) (rowAV [.bool] num1 bit1) 
  have e0 : inpT [(1, L0), (2, L1)] [] 1 = some L0 := inpT_of rfl
  have e1 : inpT [(1, L0), (2, L1)] [] 2 = some L1 := inpT_of rfl
  exact run_lawG (W := W) (ρ := inpT [(1, L0), (2, L1)] []) ERp_ok hr hx hob (heapRepT (heap := [(1, .arr 6 eSh true len0 (rowAV eSh num0 bit0)), (2, .arr 1 [.bool] true len1 (rowAV [.bool] num1 bit1))]) (ls := [(1, L0), (2, L1)]) (tabs := []) (nxt := 3) rfl (by decide) rfl (fun g vs h => by cases h) (rep_cons rfl rfl hob0 (rep_cons rfl rfl hob1 rep_nil))) (xs := [.slice c0 l0 q0, .slice c1 l1 q1])
    (by simp [denL, den, e0, hs0, e1, hs1]) (inpT_fresh (nxt := 3) rfl (Nat.le_refl _)) (inpT_glob (nxt := 3) rfl (by decide))

set_option maxRecDepth 100000 in
theorem retiresParts_lifted (os : Os) (started : os.Started) (H : Type) (enc : TypeId × Value → H) :
    ReturnsInHanded {} Try.checked os 3 .any (Rows.retiresPartsSpec.pre6 enc Try.prog Try.f3 Rows.retiresPartsRow.domain false) (Rows.retiresPartsSpec.post enc Try.prog Try.f3 false true false false) := by
  refine returnsInHanded_of_change (C := Try.checked) hown started (by kernel_rfl) Try.func3
    (ChangeSpec.witness6 (enc := enc) (C := Try.checked) false ⟨#[], #[.slice none 0 0, .slice none 0 0], []⟩ 8 (by kernel_rfl) (by kernel_rfl) (by kernel_rfl) (by kernel_rfl)) ?_
  intro W base args ds gs before hval0 hW hcnd _
  exact law_contract Try.params3 retiresParts_runs hlaidOut (of_decide_eq_true (by kernel_rfl)) (by kernel_rfl) Try.underlying4 rfl
    (fun ds hl => by match ds, hl with | [d0, d1], _ => exact ⟨rfl, rfl, rfl⟩) W base args ds gs before hval0 hW

theorem retiresParts_holds : Rows.RetiresPartsSaid :=
  OpenClaim.holds_of_wide 3 Try.f3 rfl rfl rfl rfl rfl rfl rfl ⟨rfl, rfl, rfl, rfl, rfl⟩ rfl rfl rfl rfl rfl (by kernel_rfl) Try.func3 (by kernel_rfl)
    (of_decide_eq_true (by kernel_rfl)) (by unfold Func.isWrapper; first | (rw [if_pos (by decide +kernel)]; kernel_rfl) | (rw [if_neg (by decide +kernel)]; exact ⟨rfl, rfl⟩))
    (fun os started H enc _ => retiresParts_lifted os started H enc)

#print axioms retiresParts_holds
end Go.Proofs.Ytmlfmmnnbdlabaa
