/-
  StallsPin: bumps.
-/
import Derived.Test.YtephpkfajobhmaaWSbDef
set_option linter.unusedSimpArgs false
set_option linter.unusedVariables false
namespace Go.Proofs.Ytephpkfajobhmaa
open Go.Ev
theorem sb0r_1 (m0 m1 m2 m3 who fi : Int) (S : MS) (ii : Nat) : roundB ESb 2000 sb0L ((sb0U m0 m1 m2 m3 who fi S).hp) [] (sb0T m0 m1 m2 m3 who fi S ii) [Hint.b true] (sb0T m0 m1 m2 m3 who fi S (ii + 1)) =
 some (Ex.norm, [who = who,
 (0 : Nat) = 0,
 (0 : Nat) = 0,
 (0 : Nat) = 0,
 (0 : Nat) = 0,
 (0 : Nat) = 0,
 (0 : Nat) = 0,
 IntKind.i64.wrap (Int.ofNat ii + 1) = Int.ofNat (ii + 1),
 m0 = m0,
 m1 = m1,
 m2 = m2,
 m3 = m3,
 IntKind.i64.wrap (IntKind.i64.wrap ((bmpN ii S).st + 1) + 1) = (bmpN (ii + 1) S).st,
 (3 : Int) = 3,
 (2 : Int) = 2,
 (0 : Int) = 0,
 (0 : Int) = 0,
 mget (bmpN ii S).M (key 2 0 0) = (bmpN (ii + 1) S).L.w,
 casI (bmpN ii S).M 2 0 0 (mget (bmpN ii S).M (key 2 0 0)) (IntKind.u64.wrap (mget (bmpN ii S).M (key 2 0 0) + 1)) = (bmpN (ii + 1) S).L.i,
 casD (bmpN ii S).M 2 0 0 (mget (bmpN ii S).M (key 2 0 0)) = (bmpN (ii + 1) S).L.d,
 ∀ (k : List Int), casM (bmpN ii S).M 2 0 0 (mget (bmpN ii S).M (key 2 0 0)) (IntKind.u64.wrap (mget (bmpN ii S).M (key 2 0 0) + 1)) k = (bmpN (ii + 1) S).M k,
 (0 : Int) ≤ (2 : Int),
 decide (Int.ofNat ii < IntKind.i64.wrap (m0.tmod 3)) = true]) := by kernel_rfl
theorem sb0r_2 (m0 m1 m2 m3 who fi : Int) (S : MS) (ii : Nat) : roundB ESb 2000 sb0L ((sb0U m0 m1 m2 m3 who fi S).hp) [] (sb0T m0 m1 m2 m3 who fi S ii) [Hint.b false] (sb0X m0 m1 m2 m3 who fi S ii) =
 some (Ex.exit 2, [who = who,
 (0 : Nat) = 0,
 (0 : Nat) = 0,
 (0 : Nat) = 0,
 (0 : Nat) = 0,
 (0 : Nat) = 0,
 (0 : Nat) = 0,
 m0 = m0,
 m1 = m1,
 m2 = m2,
 m3 = m3,
 (bmpN ii S).st = (bmpN ii S).st,
 (bmpN ii S).L.c = (bmpN ii S).L.c,
 (bmpN ii S).L.k = (bmpN ii S).L.k,
 (bmpN ii S).L.a = (bmpN ii S).L.a,
 (bmpN ii S).L.f = (bmpN ii S).L.f,
 (bmpN ii S).L.w = (bmpN ii S).L.w,
 (bmpN ii S).L.i = (bmpN ii S).L.i,
 (bmpN ii S).L.d = (bmpN ii S).L.d,
 ∀ (k : List Int), (bmpN ii S).M k = (bmpN ii S).M k,
 decide (Int.ofNat ii < IntKind.i64.wrap (m0.tmod 3)) = false]) := by kernel_rfl
theorem sb0i_1 (m0 m1 m2 m3 who fi : Int) (S : MS) : castSt ((sb0U m0 m1 m2 m3 who fi S).hp) [] (sb0U m0 m1 m2 m3 who fi S) (sb0T m0 m1 m2 m3 who fi S 0) =
 some ([who = who,
 (0 : Nat) = 0,
 (0 : Nat) = 0,
 (0 : Nat) = 0,
 (0 : Nat) = 0,
 (0 : Nat) = 0,
 (0 : Nat) = 0,
 (0 : Int) = 0,
 m0 = m0,
 m1 = m1,
 m2 = m2,
 m3 = m3,
 (bmpN 0 S).st = (bmpN 0 S).st,
 (bmpN 0 S).L.c = (bmpN 0 S).L.c,
 (bmpN 0 S).L.k = (bmpN 0 S).L.k,
 (bmpN 0 S).L.a = (bmpN 0 S).L.a,
 (bmpN 0 S).L.f = (bmpN 0 S).L.f,
 (bmpN 0 S).L.w = (bmpN 0 S).L.w,
 (bmpN 0 S).L.i = (bmpN 0 S).L.i,
 (bmpN 0 S).L.d = (bmpN 0 S).L.d,
 ∀ (k : List Int), (bmpN 0 S).M k = (bmpN 0 S).M k]) := by kernel_rfl
theorem sb0_lp (m0 m1 m2 m3 who fi : Int) (S : MS) (hr : 0 ≤ m0 ∧ m0 < 256) : sb0LP m0 m1 m2 m3 who fi S := by
  refine loop_rule ESb_ok (I := Nat) (fun i => sb0T m0 m1 m2 m3 who fi S i) (fun i => (m0.tmod 3).toNat - i) (fun i => i ≤ (m0.tmod 3).toNat) ?_ (fun ii hi => ?_)
  ·
    refine ⟨0, [], _, Nat.zero_le _, sb0i_1 .., (ob_cons rfl (ob_cons rfl (ob_cons rfl (ob_cons rfl (ob_cons rfl (ob_cons rfl (ob_cons rfl (ob_cons rfl (ob_cons rfl (ob_cons rfl (ob_cons rfl (ob_cons rfl (ob_cons rfl (ob_cons rfl (ob_cons rfl (ob_cons rfl (ob_cons rfl (ob_cons rfl (ob_cons rfl (ob_cons rfl (ob_cons (fun _ => rfl) ob_nil)))))))))))))))))))))⟩
  have hi : ii ≤ (m0.tmod 3).toNat := hi
  have h3 := tmod_in (n := 3) hr.1 (by decide)
  have hw : IntKind.i64.wrap (m0.tmod 3) = m0.tmod 3 := i64w (by omega) (by omega)
  cases h1 : (decide (Int.ofNat ii < IntKind.i64.wrap (m0.tmod 3))) with
  | true =>
    have g1 := of_decide_eq_true h1
    try simp only [Int.ofNat_eq_natCast, ge_iff_le, gt_iff_lt, Int.not_lt, Int.not_le] at g1
    refine round_norm (s0 := sb0U m0 m1 m2 m3 who fi S) (T := fun i => sb0T m0 m1 m2 m3 who fi S i) (i := ii) (ii + 1) (sb0r_1 ..) (ob_cons rfl (ob_cons rfl (ob_cons rfl (ob_cons rfl (ob_cons rfl (ob_cons rfl (ob_cons rfl (ob_cons ?_ (ob_cons rfl (ob_cons rfl (ob_cons rfl (ob_cons rfl (ob_cons ?_ (ob_cons rfl (ob_cons rfl (ob_cons rfl (ob_cons rfl (ob_cons ?_ (ob_cons ?_ (ob_cons ?_ (ob_cons ?_ (ob_cons (by decide) (ob_cons h1 ob_nil))))))))))))))))))))))) (by show ii + 1 ≤ (m0.tmod 3).toNat; omega) (by show (m0.tmod 3).toNat - (ii + 1) < (m0.tmod 3).toNat - ii; omega)
    ·
      first | exact wrap_nat64 _ (by simp; omega) (by simp; omega) | exact rfl | exact (fun _ => rfl) | (simp; omega) | omega
    ·
      first | exact wrap_nat64 _ (by simp; omega) (by simp; omega) | exact rfl | exact (fun _ => rfl) | (simp; omega) | omega
    ·
      first | rfl | exact rfl | exact (fun _ => rfl) | (simp; omega) | omega
    ·
      first | rfl | exact rfl | exact (fun _ => rfl) | (simp; omega) | omega
    ·
      first | rfl | exact rfl | exact (fun _ => rfl) | (simp; omega) | omega
    ·
      first | exact fun _ => rfl | exact rfl | exact (fun _ => rfl) | (simp; omega) | omega
  | false =>
    have g1 := of_decide_eq_false h1
    try simp only [Int.ofNat_eq_natCast, ge_iff_le, gt_iff_lt, Int.not_lt, Int.not_le] at g1
    obtain rfl : (m0.tmod 3).toNat = ii := by omega
    refine round_exit (s0 := sb0U m0 m1 m2 m3 who fi S) (T := fun i => sb0T m0 m1 m2 m3 who fi S i) (i := (m0.tmod 3).toNat) (sb0r_2 ..) (by simp) (ob_cons rfl (ob_cons rfl (ob_cons rfl (ob_cons rfl (ob_cons rfl (ob_cons rfl (ob_cons rfl (ob_cons rfl (ob_cons rfl (ob_cons rfl (ob_cons rfl (ob_cons rfl (ob_cons rfl (ob_cons rfl (ob_cons rfl (ob_cons rfl (ob_cons rfl (ob_cons rfl (ob_cons rfl (ob_cons (fun _ => rfl) (ob_cons h1 ob_nil)))))))))))))))))))))
theorem sb1r_1 (m0 m1 m2 m3 who fi : Int) (S : MS) (ii : Nat) : roundB ESb 2000 sb1L ((sb1U m0 m1 m2 m3 who fi S).hp) [] (sb1T m0 m1 m2 m3 who fi S ii) [Hint.b true] (sb1T m0 m1 m2 m3 who fi S (ii + 1)) =
 some (Ex.norm, [who = who,
 (0 : Nat) = 0,
 (0 : Nat) = 0,
 (0 : Nat) = 0,
 (0 : Nat) = 0,
 (0 : Nat) = 0,
 (0 : Nat) = 0,
 fi = fi,
 IntKind.i64.wrap (Int.ofNat ii + 1) = Int.ofNat (ii + 1),
 m0 = m0,
 m1 = m1,
 m2 = m2,
 m3 = m3,
 IntKind.i64.wrap (IntKind.i64.wrap ((bmpN ii S).st + 1) + 1) = (bmpN (ii + 1) S).st,
 (3 : Int) = 3,
 (2 : Int) = 2,
 (0 : Int) = 0,
 (0 : Int) = 0,
 mget (bmpN ii S).M (key 2 0 0) = (bmpN (ii + 1) S).L.w,
 casI (bmpN ii S).M 2 0 0 (mget (bmpN ii S).M (key 2 0 0)) (IntKind.u64.wrap (mget (bmpN ii S).M (key 2 0 0) + 1)) = (bmpN (ii + 1) S).L.i,
 casD (bmpN ii S).M 2 0 0 (mget (bmpN ii S).M (key 2 0 0)) = (bmpN (ii + 1) S).L.d,
 ∀ (k : List Int), casM (bmpN ii S).M 2 0 0 (mget (bmpN ii S).M (key 2 0 0)) (IntKind.u64.wrap (mget (bmpN ii S).M (key 2 0 0) + 1)) k = (bmpN (ii + 1) S).M k,
 (0 : Int) ≤ (2 : Int),
 decide (Int.ofNat ii < IntKind.i64.wrap (m1.tmod 3)) = true]) := by kernel_rfl
theorem sb1r_2 (m0 m1 m2 m3 who fi : Int) (S : MS) (ii : Nat) : roundB ESb 2000 sb1L ((sb1U m0 m1 m2 m3 who fi S).hp) [] (sb1T m0 m1 m2 m3 who fi S ii) [Hint.b false] (sb1X m0 m1 m2 m3 who fi S ii) =
 some (Ex.exit 2, [who = who,
 (0 : Nat) = 0,
 (0 : Nat) = 0,
 (0 : Nat) = 0,
 (0 : Nat) = 0,
 (0 : Nat) = 0,
 (0 : Nat) = 0,
 fi = fi,
 m0 = m0,
 m1 = m1,
 m2 = m2,
 m3 = m3,
 (bmpN ii S).st = (bmpN ii S).st,
 (bmpN ii S).L.c = (bmpN ii S).L.c,
 (bmpN ii S).L.k = (bmpN ii S).L.k,
 (bmpN ii S).L.a = (bmpN ii S).L.a,
 (bmpN ii S).L.f = (bmpN ii S).L.f,
 (bmpN ii S).L.w = (bmpN ii S).L.w,
 (bmpN ii S).L.i = (bmpN ii S).L.i,
 (bmpN ii S).L.d = (bmpN ii S).L.d,
 ∀ (k : List Int), (bmpN ii S).M k = (bmpN ii S).M k,
 decide (Int.ofNat ii < IntKind.i64.wrap (m1.tmod 3)) = false]) := by kernel_rfl
theorem sb1i_1 (m0 m1 m2 m3 who fi : Int) (S : MS) : castSt ((sb1U m0 m1 m2 m3 who fi S).hp) [] (sb1U m0 m1 m2 m3 who fi S) (sb1T m0 m1 m2 m3 who fi S 0) =
 some ([who = who,
 (0 : Nat) = 0,
 (0 : Nat) = 0,
 (0 : Nat) = 0,
 (0 : Nat) = 0,
 (0 : Nat) = 0,
 (0 : Nat) = 0,
 fi = fi,
 (0 : Int) = 0,
 m0 = m0,
 m1 = m1,
 m2 = m2,
 m3 = m3,
 (bmpN 0 S).st = (bmpN 0 S).st,
 (bmpN 0 S).L.c = (bmpN 0 S).L.c,
 (bmpN 0 S).L.k = (bmpN 0 S).L.k,
 (bmpN 0 S).L.a = (bmpN 0 S).L.a,
 (bmpN 0 S).L.f = (bmpN 0 S).L.f,
 (bmpN 0 S).L.w = (bmpN 0 S).L.w,
 (bmpN 0 S).L.i = (bmpN 0 S).L.i,
 (bmpN 0 S).L.d = (bmpN 0 S).L.d,
 ∀ (k : List Int), (bmpN 0 S).M k = (bmpN 0 S).M k]) := by kernel_rfl
theorem sb1_lp (m0 m1 m2 m3 who fi : Int) (S : MS) (hr : 0 ≤ m1 ∧ m1 < 256) : sb1LP m0 m1 m2 m3 who fi S := by
  refine loop_rule ESb_ok (I := Nat) (fun i => sb1T m0 m1 m2 m3 who fi S i) (fun i => (m1.tmod 3).toNat - i) (fun i => i ≤ (m1.tmod 3).toNat) ?_ (fun ii hi => ?_)
  ·
    refine ⟨0, [], _, Nat.zero_le _, sb1i_1 .., (ob_cons rfl (ob_cons rfl (ob_cons rfl (ob_cons rfl (ob_cons rfl (ob_cons rfl (ob_cons rfl (ob_cons rfl (ob_cons rfl (ob_cons rfl (ob_cons rfl (ob_cons rfl (ob_cons rfl (ob_cons rfl (ob_cons rfl (ob_cons rfl (ob_cons rfl (ob_cons rfl (ob_cons rfl (ob_cons rfl (ob_cons rfl (ob_cons (fun _ => rfl) ob_nil))))))))))))))))))))))⟩
  have hi : ii ≤ (m1.tmod 3).toNat := hi
  have h3 := tmod_in (n := 3) hr.1 (by decide)
  have hw : IntKind.i64.wrap (m1.tmod 3) = m1.tmod 3 := i64w (by omega) (by omega)
  cases h1 : (decide (Int.ofNat ii < IntKind.i64.wrap (m1.tmod 3))) with
  | true =>
    have g1 := of_decide_eq_true h1
    try simp only [Int.ofNat_eq_natCast, ge_iff_le, gt_iff_lt, Int.not_lt, Int.not_le] at g1
    refine round_norm (s0 := sb1U m0 m1 m2 m3 who fi S) (T := fun i => sb1T m0 m1 m2 m3 who fi S i) (i := ii) (ii + 1) (sb1r_1 ..) (ob_cons rfl (ob_cons rfl (ob_cons rfl (ob_cons rfl (ob_cons rfl (ob_cons rfl (ob_cons rfl (ob_cons rfl (ob_cons ?_ (ob_cons rfl (ob_cons rfl (ob_cons rfl (ob_cons rfl (ob_cons ?_ (ob_cons rfl (ob_cons rfl (ob_cons rfl (ob_cons rfl (ob_cons ?_ (ob_cons ?_ (ob_cons ?_ (ob_cons ?_ (ob_cons (by decide) (ob_cons h1 ob_nil)))))))))))))))))))))))) (by show ii + 1 ≤ (m1.tmod 3).toNat; omega) (by show (m1.tmod 3).toNat - (ii + 1) < (m1.tmod 3).toNat - ii; omega)
    ·
      first | exact wrap_nat64 _ (by simp; omega) (by simp; omega) | exact rfl | exact (fun _ => rfl) | (simp; omega) | omega
    ·
      first | exact wrap_nat64 _ (by simp; omega) (by simp; omega) | exact rfl | exact (fun _ => rfl) | (simp; omega) | omega
    ·
      first | rfl | exact rfl | exact (fun _ => rfl) | (simp; omega) | omega
    ·
      first | rfl | exact rfl | exact (fun _ => rfl) | (simp; omega) | omega
    ·
      first | rfl | exact rfl | exact (fun _ => rfl) | (simp; omega) | omega
    ·
      first | exact fun _ => rfl | exact rfl | exact (fun _ => rfl) | (simp; omega) | omega
  | false =>
    have g1 := of_decide_eq_false h1
    try simp only [Int.ofNat_eq_natCast, ge_iff_le, gt_iff_lt, Int.not_lt, Int.not_le] at g1
    obtain rfl : (m1.tmod 3).toNat = ii := by omega
    refine round_exit (s0 := sb1U m0 m1 m2 m3 who fi S) (T := fun i => sb1T m0 m1 m2 m3 who fi S i) (i := (m1.tmod 3).toNat) (sb1r_2 ..) (by simp) (ob_cons rfl (ob_cons rfl (ob_cons rfl (ob_cons rfl (ob_cons rfl (ob_cons rfl (ob_cons rfl (ob_cons rfl (ob_cons rfl (ob_cons rfl (ob_cons rfl (ob_cons rfl (ob_cons rfl (ob_cons rfl (ob_cons rfl (ob_cons rfl (ob_cons rfl (ob_cons rfl (ob_cons rfl (ob_cons rfl (ob_cons (fun _ => rfl) (ob_cons h1 ob_nil))))))))))))))))))))))
theorem sb2r_1 (m0 m1 m2 m3 who fi : Int) (S : MS) (ii : Nat) : roundB ESb 2000 sb2L ((sb2U m0 m1 m2 m3 who fi S).hp) [] (sb2T m0 m1 m2 m3 who fi S ii) [Hint.b true] (sb2T m0 m1 m2 m3 who fi S (ii + 1)) =
 some (Ex.norm, [who = who,
 (0 : Nat) = 0,
 (0 : Nat) = 0,
 (0 : Nat) = 0,
 (0 : Nat) = 0,
 (0 : Nat) = 0,
 (0 : Nat) = 0,
 fi = fi,
 IntKind.i64.wrap (Int.ofNat ii + 1) = Int.ofNat (ii + 1),
 m0 = m0,
 m1 = m1,
 m2 = m2,
 m3 = m3,
 IntKind.i64.wrap (IntKind.i64.wrap ((bmpN ii S).st + 1) + 1) = (bmpN (ii + 1) S).st,
 (3 : Int) = 3,
 (2 : Int) = 2,
 (0 : Int) = 0,
 (0 : Int) = 0,
 mget (bmpN ii S).M (key 2 0 0) = (bmpN (ii + 1) S).L.w,
 casI (bmpN ii S).M 2 0 0 (mget (bmpN ii S).M (key 2 0 0)) (IntKind.u64.wrap (mget (bmpN ii S).M (key 2 0 0) + 1)) = (bmpN (ii + 1) S).L.i,
 casD (bmpN ii S).M 2 0 0 (mget (bmpN ii S).M (key 2 0 0)) = (bmpN (ii + 1) S).L.d,
 ∀ (k : List Int), casM (bmpN ii S).M 2 0 0 (mget (bmpN ii S).M (key 2 0 0)) (IntKind.u64.wrap (mget (bmpN ii S).M (key 2 0 0) + 1)) k = (bmpN (ii + 1) S).M k,
 (0 : Int) ≤ (2 : Int),
 decide (Int.ofNat ii < IntKind.i64.wrap (m2.tmod 3)) = true]) := by kernel_rfl
theorem sb2r_2 (m0 m1 m2 m3 who fi : Int) (S : MS) (ii : Nat) : roundB ESb 2000 sb2L ((sb2U m0 m1 m2 m3 who fi S).hp) [] (sb2T m0 m1 m2 m3 who fi S ii) [Hint.b false] (sb2X m0 m1 m2 m3 who fi S ii) =
 some (Ex.exit 2, [who = who,
 (0 : Nat) = 0,
 (0 : Nat) = 0,
 (0 : Nat) = 0,
 (0 : Nat) = 0,
 (0 : Nat) = 0,
 (0 : Nat) = 0,
 fi = fi,
 m0 = m0,
 m1 = m1,
 m2 = m2,
 m3 = m3,
 (bmpN ii S).st = (bmpN ii S).st,
 (bmpN ii S).L.c = (bmpN ii S).L.c,
 (bmpN ii S).L.k = (bmpN ii S).L.k,
 (bmpN ii S).L.a = (bmpN ii S).L.a,
 (bmpN ii S).L.f = (bmpN ii S).L.f,
 (bmpN ii S).L.w = (bmpN ii S).L.w,
 (bmpN ii S).L.i = (bmpN ii S).L.i,
 (bmpN ii S).L.d = (bmpN ii S).L.d,
 ∀ (k : List Int), (bmpN ii S).M k = (bmpN ii S).M k,
 decide (Int.ofNat ii < IntKind.i64.wrap (m2.tmod 3)) = false]) := by kernel_rfl
theorem sb2i_1 (m0 m1 m2 m3 who fi : Int) (S : MS) : castSt ((sb2U m0 m1 m2 m3 who fi S).hp) [] (sb2U m0 m1 m2 m3 who fi S) (sb2T m0 m1 m2 m3 who fi S 0) =
 some ([who = who,
 (0 : Nat) = 0,
 (0 : Nat) = 0,
 (0 : Nat) = 0,
 (0 : Nat) = 0,
 (0 : Nat) = 0,
 (0 : Nat) = 0,
 fi = fi,
 (0 : Int) = 0,
 m0 = m0,
 m1 = m1,
 m2 = m2,
 m3 = m3,
 (bmpN 0 S).st = (bmpN 0 S).st,
 (bmpN 0 S).L.c = (bmpN 0 S).L.c,
 (bmpN 0 S).L.k = (bmpN 0 S).L.k,
 (bmpN 0 S).L.a = (bmpN 0 S).L.a,
 (bmpN 0 S).L.f = (bmpN 0 S).L.f,
 (bmpN 0 S).L.w = (bmpN 0 S).L.w,
 (bmpN 0 S).L.i = (bmpN 0 S).L.i,
 (bmpN 0 S).L.d = (bmpN 0 S).L.d,
 ∀ (k : List Int), (bmpN 0 S).M k = (bmpN 0 S).M k]) := by kernel_rfl
theorem sb2_lp (m0 m1 m2 m3 who fi : Int) (S : MS) (hr : 0 ≤ m2 ∧ m2 < 256) : sb2LP m0 m1 m2 m3 who fi S := by
  refine loop_rule ESb_ok (I := Nat) (fun i => sb2T m0 m1 m2 m3 who fi S i) (fun i => (m2.tmod 3).toNat - i) (fun i => i ≤ (m2.tmod 3).toNat) ?_ (fun ii hi => ?_)
  ·
    refine ⟨0, [], _, Nat.zero_le _, sb2i_1 .., (ob_cons rfl (ob_cons rfl (ob_cons rfl (ob_cons rfl (ob_cons rfl (ob_cons rfl (ob_cons rfl (ob_cons rfl (ob_cons rfl (ob_cons rfl (ob_cons rfl (ob_cons rfl (ob_cons rfl (ob_cons rfl (ob_cons rfl (ob_cons rfl (ob_cons rfl (ob_cons rfl (ob_cons rfl (ob_cons rfl (ob_cons rfl (ob_cons (fun _ => rfl) ob_nil))))))))))))))))))))))⟩
  have hi : ii ≤ (m2.tmod 3).toNat := hi
  have h3 := tmod_in (n := 3) hr.1 (by decide)
  have hw : IntKind.i64.wrap (m2.tmod 3) = m2.tmod 3 := i64w (by omega) (by omega)
  cases h1 : (decide (Int.ofNat ii < IntKind.i64.wrap (m2.tmod 3))) with
  | true =>
    have g1 := of_decide_eq_true h1
    try simp only [Int.ofNat_eq_natCast, ge_iff_le, gt_iff_lt, Int.not_lt, Int.not_le] at g1
    refine round_norm (s0 := sb2U m0 m1 m2 m3 who fi S) (T := fun i => sb2T m0 m1 m2 m3 who fi S i) (i := ii) (ii + 1) (sb2r_1 ..) (ob_cons rfl (ob_cons rfl (ob_cons rfl (ob_cons rfl (ob_cons rfl (ob_cons rfl (ob_cons rfl (ob_cons rfl (ob_cons ?_ (ob_cons rfl (ob_cons rfl (ob_cons rfl (ob_cons rfl (ob_cons ?_ (ob_cons rfl (ob_cons rfl (ob_cons rfl (ob_cons rfl (ob_cons ?_ (ob_cons ?_ (ob_cons ?_ (ob_cons ?_ (ob_cons (by decide) (ob_cons h1 ob_nil)))))))))))))))))))))))) (by show ii + 1 ≤ (m2.tmod 3).toNat; omega) (by show (m2.tmod 3).toNat - (ii + 1) < (m2.tmod 3).toNat - ii; omega)
    ·
      first | exact wrap_nat64 _ (by simp; omega) (by simp; omega) | exact rfl | exact (fun _ => rfl) | (simp; omega) | omega
    ·
      first | exact wrap_nat64 _ (by simp; omega) (by simp; omega) | exact rfl | exact (fun _ => rfl) | (simp; omega) | omega
    ·
      first | rfl | exact rfl | exact (fun _ => rfl) | (simp; omega) | omega
    ·
      first | rfl | exact rfl | exact (fun _ => rfl) | (simp; omega) | omega
    ·
      first | rfl | exact rfl | exact (fun _ => rfl) | (simp; omega) | omega
    ·
      first | exact fun _ => rfl | exact rfl | exact (fun _ => rfl) | (simp; omega) | omega
  | false =>
    have g1 := of_decide_eq_false h1
    try simp only [Int.ofNat_eq_natCast, ge_iff_le, gt_iff_lt, Int.not_lt, Int.not_le] at g1
    obtain rfl : (m2.tmod 3).toNat = ii := by omega
    refine round_exit (s0 := sb2U m0 m1 m2 m3 who fi S) (T := fun i => sb2T m0 m1 m2 m3 who fi S i) (i := (m2.tmod 3).toNat) (sb2r_2 ..) (by simp) (ob_cons rfl (ob_cons rfl (ob_cons rfl (ob_cons rfl (ob_cons rfl (ob_cons rfl (ob_cons rfl (ob_cons rfl (ob_cons rfl (ob_cons rfl (ob_cons rfl (ob_cons rfl (ob_cons rfl (ob_cons rfl (ob_cons rfl (ob_cons rfl (ob_cons rfl (ob_cons rfl (ob_cons rfl (ob_cons rfl (ob_cons (fun _ => rfl) (ob_cons h1 ob_nil))))))))))))))))))))))
theorem sb3r_1 (m0 m1 m2 m3 who fi : Int) (S : MS) (ii : Nat) : roundB ESb 2000 sb3L ((sb3U m0 m1 m2 m3 who fi S).hp) [] (sb3T m0 m1 m2 m3 who fi S ii) [Hint.b true] (sb3T m0 m1 m2 m3 who fi S (ii + 1)) =
 some (Ex.norm, [who = who,
 (0 : Nat) = 0,
 (0 : Nat) = 0,
 (0 : Nat) = 0,
 (0 : Nat) = 0,
 (0 : Nat) = 0,
 (0 : Nat) = 0,
 fi = fi,
 IntKind.i64.wrap (Int.ofNat ii + 1) = Int.ofNat (ii + 1),
 m0 = m0,
 m1 = m1,
 m2 = m2,
 m3 = m3,
 IntKind.i64.wrap (IntKind.i64.wrap ((bmpN ii S).st + 1) + 1) = (bmpN (ii + 1) S).st,
 (3 : Int) = 3,
 (2 : Int) = 2,
 (0 : Int) = 0,
 (0 : Int) = 0,
 mget (bmpN ii S).M (key 2 0 0) = (bmpN (ii + 1) S).L.w,
 casI (bmpN ii S).M 2 0 0 (mget (bmpN ii S).M (key 2 0 0)) (IntKind.u64.wrap (mget (bmpN ii S).M (key 2 0 0) + 1)) = (bmpN (ii + 1) S).L.i,
 casD (bmpN ii S).M 2 0 0 (mget (bmpN ii S).M (key 2 0 0)) = (bmpN (ii + 1) S).L.d,
 ∀ (k : List Int), casM (bmpN ii S).M 2 0 0 (mget (bmpN ii S).M (key 2 0 0)) (IntKind.u64.wrap (mget (bmpN ii S).M (key 2 0 0) + 1)) k = (bmpN (ii + 1) S).M k,
 (0 : Int) ≤ (2 : Int),
 decide (Int.ofNat ii < IntKind.i64.wrap (m3.tmod 3)) = true]) := by kernel_rfl
theorem sb3r_2 (m0 m1 m2 m3 who fi : Int) (S : MS) (ii : Nat) : roundB ESb 2000 sb3L ((sb3U m0 m1 m2 m3 who fi S).hp) [] (sb3T m0 m1 m2 m3 who fi S ii) [Hint.b false] (sb3X m0 m1 m2 m3 who fi S ii) =
 some (Ex.exit 2, [who = who,
 (0 : Nat) = 0,
 (0 : Nat) = 0,
 (0 : Nat) = 0,
 (0 : Nat) = 0,
 (0 : Nat) = 0,
 (0 : Nat) = 0,
 fi = fi,
 m0 = m0,
 m1 = m1,
 m2 = m2,
 m3 = m3,
 (bmpN ii S).st = (bmpN ii S).st,
 (bmpN ii S).L.c = (bmpN ii S).L.c,
 (bmpN ii S).L.k = (bmpN ii S).L.k,
 (bmpN ii S).L.a = (bmpN ii S).L.a,
 (bmpN ii S).L.f = (bmpN ii S).L.f,
 (bmpN ii S).L.w = (bmpN ii S).L.w,
 (bmpN ii S).L.i = (bmpN ii S).L.i,
 (bmpN ii S).L.d = (bmpN ii S).L.d,
 ∀ (k : List Int), (bmpN ii S).M k = (bmpN ii S).M k,
 decide (Int.ofNat ii < IntKind.i64.wrap (m3.tmod 3)) = false]) := by kernel_rfl
theorem sb3i_1 (m0 m1 m2 m3 who fi : Int) (S : MS) : castSt ((sb3U m0 m1 m2 m3 who fi S).hp) [] (sb3U m0 m1 m2 m3 who fi S) (sb3T m0 m1 m2 m3 who fi S 0) =
 some ([who = who,
 (0 : Nat) = 0,
 (0 : Nat) = 0,
 (0 : Nat) = 0,
 (0 : Nat) = 0,
 (0 : Nat) = 0,
 (0 : Nat) = 0,
 fi = fi,
 (0 : Int) = 0,
 m0 = m0,
 m1 = m1,
 m2 = m2,
 m3 = m3,
 (bmpN 0 S).st = (bmpN 0 S).st,
 (bmpN 0 S).L.c = (bmpN 0 S).L.c,
 (bmpN 0 S).L.k = (bmpN 0 S).L.k,
 (bmpN 0 S).L.a = (bmpN 0 S).L.a,
 (bmpN 0 S).L.f = (bmpN 0 S).L.f,
 (bmpN 0 S).L.w = (bmpN 0 S).L.w,
 (bmpN 0 S).L.i = (bmpN 0 S).L.i,
 (bmpN 0 S).L.d = (bmpN 0 S).L.d,
 ∀ (k : List Int), (bmpN 0 S).M k = (bmpN 0 S).M k]) := by kernel_rfl
theorem sb3_lp (m0 m1 m2 m3 who fi : Int) (S : MS) (hr : 0 ≤ m3 ∧ m3 < 256) : sb3LP m0 m1 m2 m3 who fi S := by
  refine loop_rule ESb_ok (I := Nat) (fun i => sb3T m0 m1 m2 m3 who fi S i) (fun i => (m3.tmod 3).toNat - i) (fun i => i ≤ (m3.tmod 3).toNat) ?_ (fun ii hi => ?_)
  ·
    refine ⟨0, [], _, Nat.zero_le _, sb3i_1 .., (ob_cons rfl (ob_cons rfl (ob_cons rfl (ob_cons rfl (ob_cons rfl (ob_cons rfl (ob_cons rfl (ob_cons rfl (ob_cons rfl (ob_cons rfl (ob_cons rfl (ob_cons rfl (ob_cons rfl (ob_cons rfl (ob_cons rfl (ob_cons rfl (ob_cons rfl (ob_cons rfl (ob_cons rfl (ob_cons rfl (ob_cons rfl (ob_cons (fun _ => rfl) ob_nil))))))))))))))))))))))⟩
  have hi : ii ≤ (m3.tmod 3).toNat := hi
  have h3 := tmod_in (n := 3) hr.1 (by decide)
  have hw : IntKind.i64.wrap (m3.tmod 3) = m3.tmod 3 := i64w (by omega) (by omega)
  cases h1 : (decide (Int.ofNat ii < IntKind.i64.wrap (m3.tmod 3))) with
  | true =>
    have g1 := of_decide_eq_true h1
    try simp only [Int.ofNat_eq_natCast, ge_iff_le, gt_iff_lt, Int.not_lt, Int.not_le] at g1
    refine round_norm (s0 := sb3U m0 m1 m2 m3 who fi S) (T := fun i => sb3T m0 m1 m2 m3 who fi S i) (i := ii) (ii + 1) (sb3r_1 ..) (ob_cons rfl (ob_cons rfl (ob_cons rfl (ob_cons rfl (ob_cons rfl (ob_cons rfl (ob_cons rfl (ob_cons rfl (ob_cons ?_ (ob_cons rfl (ob_cons rfl (ob_cons rfl (ob_cons rfl (ob_cons ?_ (ob_cons rfl (ob_cons rfl (ob_cons rfl (ob_cons rfl (ob_cons ?_ (ob_cons ?_ (ob_cons ?_ (ob_cons ?_ (ob_cons (by decide) (ob_cons h1 ob_nil)))))))))))))))))))))))) (by show ii + 1 ≤ (m3.tmod 3).toNat; omega) (by show (m3.tmod 3).toNat - (ii + 1) < (m3.tmod 3).toNat - ii; omega)
    ·
      first | exact wrap_nat64 _ (by simp; omega) (by simp; omega) | exact rfl | exact (fun _ => rfl) | (simp; omega) | omega
    ·
      first | exact wrap_nat64 _ (by simp; omega) (by simp; omega) | exact rfl | exact (fun _ => rfl) | (simp; omega) | omega
    ·
      first | rfl | exact rfl | exact (fun _ => rfl) | (simp; omega) | omega
    ·
      first | rfl | exact rfl | exact (fun _ => rfl) | (simp; omega) | omega
    ·
      first | rfl | exact rfl | exact (fun _ => rfl) | (simp; omega) | omega
    ·
      first | exact fun _ => rfl | exact rfl | exact (fun _ => rfl) | (simp; omega) | omega
  | false =>
    have g1 := of_decide_eq_false h1
    try simp only [Int.ofNat_eq_natCast, ge_iff_le, gt_iff_lt, Int.not_lt, Int.not_le] at g1
    obtain rfl : (m3.tmod 3).toNat = ii := by omega
    refine round_exit (s0 := sb3U m0 m1 m2 m3 who fi S) (T := fun i => sb3T m0 m1 m2 m3 who fi S i) (i := (m3.tmod 3).toNat) (sb3r_2 ..) (by simp) (ob_cons rfl (ob_cons rfl (ob_cons rfl (ob_cons rfl (ob_cons rfl (ob_cons rfl (ob_cons rfl (ob_cons rfl (ob_cons rfl (ob_cons rfl (ob_cons rfl (ob_cons rfl (ob_cons rfl (ob_cons rfl (ob_cons rfl (ob_cons rfl (ob_cons rfl (ob_cons rfl (ob_cons rfl (ob_cons rfl (ob_cons (fun _ => rfl) (ob_cons h1 ob_nil))))))))))))))))))))))
end Go.Proofs.Ytephpkfajobhmaa
