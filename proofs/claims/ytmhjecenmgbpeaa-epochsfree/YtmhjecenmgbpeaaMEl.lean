/-
  EpochsFree: its loop.
-/
import Derived.Test.YtmhjecenmgbpeaaMElDef
set_option linter.unusedSimpArgs false
set_option linter.unusedVariables false
namespace Go.Proofs.Ytmhjecenmgbpeaa
open Go.Ev
theorem eflr_3 (epoch who : Int) (n : Nat) (Z : Nat → MS) (ii : Nat) : roundB EF0 2000 eflL ((eflU epoch who n Z).hp) [] (eflT epoch who n Z ii) [Hint.b true, Hint.b false, Hint.b false] (eflT epoch who n Z (ii + 1)) =
 some (Ex.norm, [epoch = epoch,
 who = who,
 (0 : Nat) = 0,
 (0 : Nat) = 0,
 Int.ofNat n = Int.ofNat n,
 IntKind.u64.wrap (Int.ofNat ii + 1) = Int.ofNat (ii + 1),
 (nL (Z ii).M (Z ii).st (Z ii).L.c (Z ii).L.k (Z ii).L.a (Z ii).L.f (Z ii).L.w (Z ii).L.i (Z ii).L.d).st = (Z (ii + 1)).st,
 (nL (Z ii).M (Z ii).st (Z ii).L.c (Z ii).L.k (Z ii).L.a (Z ii).L.f (Z ii).L.w (Z ii).L.i (Z ii).L.d).L.c = (Z (ii + 1)).L.c,
 (nL (Z ii).M (Z ii).st (Z ii).L.c (Z ii).L.k (Z ii).L.a (Z ii).L.f (Z ii).L.w (Z ii).L.i (Z ii).L.d).L.k = (Z (ii + 1)).L.k,
 (nL (Z ii).M (Z ii).st (Z ii).L.c (Z ii).L.k (Z ii).L.a (Z ii).L.f (Z ii).L.w (Z ii).L.i (Z ii).L.d).L.a = (Z (ii + 1)).L.a,
 (nL (Z ii).M (Z ii).st (Z ii).L.c (Z ii).L.k (Z ii).L.a (Z ii).L.f (Z ii).L.w (Z ii).L.i (Z ii).L.d).L.f = (Z (ii + 1)).L.f,
 (nL (Z ii).M (Z ii).st (Z ii).L.c (Z ii).L.k (Z ii).L.a (Z ii).L.f (Z ii).L.w (Z ii).L.i (Z ii).L.d).L.w = (Z (ii + 1)).L.w,
 (nL (Z ii).M (Z ii).st (Z ii).L.c (Z ii).L.k (Z ii).L.a (Z ii).L.f (Z ii).L.w (Z ii).L.i (Z ii).L.d).L.i = (Z (ii + 1)).L.i,
 (nL (Z ii).M (Z ii).st (Z ii).L.c (Z ii).L.k (Z ii).L.a (Z ii).L.f (Z ii).L.w (Z ii).L.i (Z ii).L.d).L.d = (Z (ii + 1)).L.d,
 ∀ (k : List Int), nxM (Z ii).M k = (Z (ii + 1)).M k,
 (Int.ofNat (frN (Z ii).M + 3) != 19) = false,
 (!okM (Z ii).M) = false,
 mget (Z ii).M (key 5 0 0) = 4,
 decide (Int.ofNat ii < Int.ofNat n) = true]) := by kernel_rfl
theorem eflr_4 (epoch who : Int) (n : Nat) (Z : Nat → MS) (ii : Nat) : roundB EF0 2000 eflL ((eflU epoch who n Z).hp) [] (eflT epoch who n Z ii) [Hint.b false] (eflX epoch who n Z ii) =
 some (Ex.exit 0, [epoch = epoch,
 who = who,
 (0 : Nat) = 0,
 (0 : Nat) = 0,
 Int.ofNat n = Int.ofNat n,
 (Z ii).st = (Z ii).st,
 (Z ii).L.c = (Z ii).L.c,
 (Z ii).L.k = (Z ii).L.k,
 (Z ii).L.a = (Z ii).L.a,
 (Z ii).L.f = (Z ii).L.f,
 (Z ii).L.w = (Z ii).L.w,
 (Z ii).L.i = (Z ii).L.i,
 (Z ii).L.d = (Z ii).L.d,
 ∀ (k : List Int), (Z ii).M k = (Z ii).M k,
 decide (Int.ofNat ii < Int.ofNat n) = false]) := by kernel_rfl
theorem efli_1 (epoch who : Int) (n : Nat) (Z : Nat → MS) : castSt ((eflU epoch who n Z).hp) [] (eflU epoch who n Z) (eflT epoch who n Z 0) =
 some ([epoch = epoch,
 who = who,
 (0 : Nat) = 0,
 (0 : Nat) = 0,
 Int.ofNat n = Int.ofNat n,
 (0 : Int) = 0,
 (Z 0).st = (Z 0).st,
 (Z 0).L.c = (Z 0).L.c,
 (Z 0).L.k = (Z 0).L.k,
 (Z 0).L.a = (Z 0).L.a,
 (Z 0).L.f = (Z 0).L.f,
 (Z 0).L.w = (Z 0).L.w,
 (Z 0).L.i = (Z 0).L.i,
 (Z 0).L.d = (Z 0).L.d,
 ∀ (k : List Int), (Z 0).M k = (Z 0).M k]) := by kernel_rfl
theorem efl_lp (epoch who : Int) (n : Nat) (Z : Nat → MS) (hn : n < 20) (hZ : ∀ i, Z (i + 1) = nL (Z i).M (Z i).st (Z i).L.c (Z i).L.k (Z i).L.a (Z i).L.f (Z i).L.w (Z i).L.i (Z i).L.d) (hk : ∀ i, i < n → okM (Z i).M = true) (hf : ∀ i, i < n → frN (Z i).M = 16) (hb : ∀ i, i < n → mget (Z i).M (key 5 0 0) = 4) : eflLP epoch who n Z := by
  refine loop_rule EF0_ok (I := Nat) (fun i => eflT epoch who n Z i) (fun i => n - i) (fun i => i ≤ n) ?_ (fun ii hi => ?_)
  ·
    refine ⟨0, [], _, Nat.zero_le _, efli_1 .., (ob_cons rfl (ob_cons rfl (ob_cons rfl (ob_cons rfl (ob_cons rfl (ob_cons rfl (ob_cons rfl (ob_cons rfl (ob_cons rfl (ob_cons rfl (ob_cons rfl (ob_cons rfl (ob_cons rfl (ob_cons rfl (ob_cons (fun _ => rfl) ob_nil)))))))))))))))⟩
  have hi : ii ≤ n := hi
  cases h1 : (decide (Int.ofNat ii < Int.ofNat n)) with
  | true =>
    have g1 := of_decide_eq_true h1
    try simp only [Int.ofNat_eq_natCast, ge_iff_le, gt_iff_lt, Int.not_lt, Int.not_le] at g1
    refine round_norm (s0 := eflU epoch who n Z) (T := fun i => eflT epoch who n Z i) (i := ii) (ii + 1) (eflr_3 ..) (ob_cons rfl (ob_cons rfl (ob_cons rfl (ob_cons rfl (ob_cons rfl (ob_cons ?_ (ob_cons ?_ (ob_cons ?_ (ob_cons ?_ (ob_cons ?_ (ob_cons ?_ (ob_cons ?_ (ob_cons ?_ (ob_cons ?_ (ob_cons ?_ (ob_cons ?_ (ob_cons ?_ (ob_cons ?_ (ob_cons h1 ob_nil))))))))))))))))))) (by show ii + 1 ≤ n; omega) (by show n - (ii + 1) < n - ii; omega)
    ·
      first | exact wrap_nat64 _ (by simp; omega) (by simp; omega) | omega | (simp; omega) | (rw [hZ]; done) | (intro q; rw [hZ, nL_M]; done) | (simp; rw [u64w (by omega) (by omega)]; done) | (exact hb ii (by omega)) | (have q1 := hk ii (by omega); rw [q1]; rfl) | (have q2 := hf ii (by omega); rw [q2]; rfl) | (have q1 := hk ii (by omega); have q2 := hf ii (by omega); simp_all; done)
    ·
      first | rfl | omega | (simp; omega) | (rw [hZ]; done) | (intro q; rw [hZ, nL_M]; done) | (simp; rw [u64w (by omega) (by omega)]; done) | (exact hb ii (by omega)) | (have q1 := hk ii (by omega); rw [q1]; rfl) | (have q2 := hf ii (by omega); rw [q2]; rfl) | (have q1 := hk ii (by omega); have q2 := hf ii (by omega); simp_all; done)
    ·
      first | rfl | omega | (simp; omega) | (rw [hZ]; done) | (intro q; rw [hZ, nL_M]; done) | (simp; rw [u64w (by omega) (by omega)]; done) | (exact hb ii (by omega)) | (have q1 := hk ii (by omega); rw [q1]; rfl) | (have q2 := hf ii (by omega); rw [q2]; rfl) | (have q1 := hk ii (by omega); have q2 := hf ii (by omega); simp_all; done)
    ·
      first | rfl | omega | (simp; omega) | (rw [hZ]; done) | (intro q; rw [hZ, nL_M]; done) | (simp; rw [u64w (by omega) (by omega)]; done) | (exact hb ii (by omega)) | (have q1 := hk ii (by omega); rw [q1]; rfl) | (have q2 := hf ii (by omega); rw [q2]; rfl) | (have q1 := hk ii (by omega); have q2 := hf ii (by omega); simp_all; done)
    ·
      first | rfl | omega | (simp; omega) | (rw [hZ]; done) | (intro q; rw [hZ, nL_M]; done) | (simp; rw [u64w (by omega) (by omega)]; done) | (exact hb ii (by omega)) | (have q1 := hk ii (by omega); rw [q1]; rfl) | (have q2 := hf ii (by omega); rw [q2]; rfl) | (have q1 := hk ii (by omega); have q2 := hf ii (by omega); simp_all; done)
    ·
      first | rfl | omega | (simp; omega) | (rw [hZ]; done) | (intro q; rw [hZ, nL_M]; done) | (simp; rw [u64w (by omega) (by omega)]; done) | (exact hb ii (by omega)) | (have q1 := hk ii (by omega); rw [q1]; rfl) | (have q2 := hf ii (by omega); rw [q2]; rfl) | (have q1 := hk ii (by omega); have q2 := hf ii (by omega); simp_all; done)
    ·
      first | rfl | omega | (simp; omega) | (rw [hZ]; done) | (intro q; rw [hZ, nL_M]; done) | (simp; rw [u64w (by omega) (by omega)]; done) | (exact hb ii (by omega)) | (have q1 := hk ii (by omega); rw [q1]; rfl) | (have q2 := hf ii (by omega); rw [q2]; rfl) | (have q1 := hk ii (by omega); have q2 := hf ii (by omega); simp_all; done)
    ·
      first | rfl | omega | (simp; omega) | (rw [hZ]; done) | (intro q; rw [hZ, nL_M]; done) | (simp; rw [u64w (by omega) (by omega)]; done) | (exact hb ii (by omega)) | (have q1 := hk ii (by omega); rw [q1]; rfl) | (have q2 := hf ii (by omega); rw [q2]; rfl) | (have q1 := hk ii (by omega); have q2 := hf ii (by omega); simp_all; done)
    ·
      first | rfl | omega | (simp; omega) | (rw [hZ]; done) | (intro q; rw [hZ, nL_M]; done) | (simp; rw [u64w (by omega) (by omega)]; done) | (exact hb ii (by omega)) | (have q1 := hk ii (by omega); rw [q1]; rfl) | (have q2 := hf ii (by omega); rw [q2]; rfl) | (have q1 := hk ii (by omega); have q2 := hf ii (by omega); simp_all; done)
    ·
      first | exact fun _ => rfl | omega | (simp; omega) | (rw [hZ]; done) | (intro q; rw [hZ, nL_M]; done) | (simp; rw [u64w (by omega) (by omega)]; done) | (exact hb ii (by omega)) | (have q1 := hk ii (by omega); rw [q1]; rfl) | (have q2 := hf ii (by omega); rw [q2]; rfl) | (have q1 := hk ii (by omega); have q2 := hf ii (by omega); simp_all; done)
    ·
      first | (apply Nat.ble_eq_true_of_le; omega) | (simp [Nat.blt_eq]; omega) | omega | (simp; omega) | (rw [hZ]; done) | (intro q; rw [hZ, nL_M]; done) | (simp; rw [u64w (by omega) (by omega)]; done) | (exact hb ii (by omega)) | (have q1 := hk ii (by omega); rw [q1]; rfl) | (have q2 := hf ii (by omega); rw [q2]; rfl) | (have q1 := hk ii (by omega); have q2 := hf ii (by omega); simp_all; done)
    ·
      first | (apply Nat.ble_eq_true_of_le; omega) | (simp [Nat.blt_eq]; omega) | omega | (simp; omega) | (rw [hZ]; done) | (intro q; rw [hZ, nL_M]; done) | (simp; rw [u64w (by omega) (by omega)]; done) | (exact hb ii (by omega)) | (have q1 := hk ii (by omega); rw [q1]; rfl) | (have q2 := hf ii (by omega); rw [q2]; rfl) | (have q1 := hk ii (by omega); have q2 := hf ii (by omega); simp_all; done)
    ·
      first | rfl | omega | (simp; omega) | (rw [hZ]; done) | (intro q; rw [hZ, nL_M]; done) | (simp; rw [u64w (by omega) (by omega)]; done) | (exact hb ii (by omega)) | (have q1 := hk ii (by omega); rw [q1]; rfl) | (have q2 := hf ii (by omega); rw [q2]; rfl) | (have q1 := hk ii (by omega); have q2 := hf ii (by omega); simp_all; done)
  | false =>
    have g1 := of_decide_eq_false h1
    try simp only [Int.ofNat_eq_natCast, ge_iff_le, gt_iff_lt, Int.not_lt, Int.not_le] at g1
    obtain rfl : n = ii := by omega
    refine round_exit (s0 := eflU epoch who n Z) (T := fun i => eflT epoch who n Z i) (i := n) (eflr_4 ..) (by simp) (ob_cons rfl (ob_cons rfl (ob_cons rfl (ob_cons rfl (ob_cons rfl (ob_cons rfl (ob_cons rfl (ob_cons rfl (ob_cons rfl (ob_cons rfl (ob_cons rfl (ob_cons rfl (ob_cons rfl (ob_cons (fun _ => rfl) (ob_cons h1 ob_nil)))))))))))))))
end Go.Proofs.Ytmhjecenmgbpeaa
