/-
  For all inputs, EpochsFree returns true. No condition.
-/
import Derived.Test.YtmhjecenmgbpeaaMEl
import Derived.Test.YtmhjecenmgbpeaaEvLaw
set_option linter.unusedSimpArgs false
set_option linter.unusedVariables false
namespace Go.Proofs.Ytmhjecenmgbpeaa
open Go.Ev Go.ChangeShapes Go.WideShapes Go.ChangeAt Go.RowKit
set_option maxRecDepth 100000
theorem l15_run : (callF EM0 8000 25 [] ⟨[], 0, gnm 0, [], [], [], true⟩).map (fun x => (x.1, x.2.ob)) = some (.symb true, []) := by kernel_rfl
noncomputable def l15Spec : LSpec := fun la lh => match la, lh with
  | [], [] => some ⟨0, .bool true, [], 0, [], []⟩
  | _, _ => none
theorem l15Spec_ok (la : List AV) (lh : List (Nat × AO)) (R : LR) (h : l15Spec la lh = some R) : LocOk Try.prog 25 la lh R := by
  unfold l15Spec at h
  split at h
  · cases h; exact lives_of_run_s EM0_ok l15_run
  · cases h
noncomputable def EFL : Env := envG Try.prog ((25, rawSP l15Spec) :: (19, locSP mvdSpec) :: memSpecs)
theorem EFL_ok : EnvOk EFL := envG_ok mgood ⟨rawSP_ok l15Spec_ok, locSP_ok mvdSpec_ok, memSpecs_ok⟩
noncomputable def efRun (epoch many who : Int) (h : List Hint) : Option (AV × List Prop × Bool) := (callF EFL 3000 4 [.sym .u64 epoch, .sym .u8 many, .sym .u8 who] ⟨[], 1, gnm 0, h, [], [], false⟩).map (fun x => (x.1, x.2.ob, noneIn [] x.2.wr))
def efM0 (epoch : Int) : List Int → Option Int := memPut (memPut (fun _ => none) 1 0 0 epoch) 5 0 0 4
noncomputable def efU (epoch many who : Int) : St := ⟨[.sym .u64 epoch, .top, .sym .u8 who, .top, .top, .top, .top, .ptr 2 0 0, .sym .u64 (IntKind.u64.wrap (many.tmod 20)), .int .u64 0] ++ List.replicate 126 .top, ⟨[(2, .cells 9 [.map 1, .sym .i64 2, .sym .u8 2, .sym .u8 5, .sym .i64 0, .sym .i64 0, .sym .u64 0, .sym .u64 4, .symb false]), (1, .map 110 (efM0 epoch))], 3, gnm 0, [], [], [2, 1], false⟩⟩
noncomputable def efLP (epoch many who : Int) (n : Nat) (Z : Nat → MS) : Prop := LoopHolds Try.prog eflL (efU epoch many who) (.exit 0) (eflX epoch who n Z n)
theorem efA (epoch many who : Int) (n : Nat) (Z : Nat → MS) : efRun epoch many who [.lp [0,2,7,8,9] (.exit 0) (eflX epoch who n Z n).tmps (eflX epoch who n Z n).hp.heap 3 [2,1], .b false, .b false, .node [], .b false, .b false, .b false, .b false, .b true, .b false, .b false, .b false, .b false, .b true, .b true, .b true] = some (.bool true, [((decide (IntKind.u64.wrap (IntKind.u64.wrap ((mget (Z n).M (key 1 0 0)) + 2) - (mget (Z n).M (key 1 0 0))) ≥ 2) == decide ((mget (Z n).M (key 1 0 0)) < 18446744073709551614)) == true) = true,
 decide (IntKind.u64.wrap ((mget (Z n).M (key 1 0 0)) + 2) ≥ (mget (Z n).M (key 1 0 0))) = true,
 okM (memPut (nxM (nxM (nxM (memPut (Z n).M 8 (IntKind.i64.wrap (who.tmod 16)) 3 (inW (mget (Z n).M (key 1 0 0))))))) 8 (IntKind.i64.wrap (who.tmod 16)) 3 0) = true,
 mget (memPut (nxM (nxM (nxM (memPut (Z n).M 8 (IntKind.i64.wrap (who.tmod 16)) 3 (inW (mget (Z n).M (key 1 0 0))))))) 8 (IntKind.i64.wrap (who.tmod 16)) 3 0) (key 5 0 0) = 4,
 (0 : Int) ≤ (8 : Int),
 decide ((IntKind.i64.wrap (who.tmod 16)) ≥ 16) = false,
 decide ((IntKind.i64.wrap (who.tmod 16)) < 0) = false,
 (mget (nxM (nxM (nxM (memPut (Z n).M 8 (IntKind.i64.wrap (who.tmod 16)) 3 (inW (mget (Z n).M (key 1 0 0))))))) (key 1 0 0) != IntKind.u64.wrap ((mget (Z n).M (key 1 0 0)) + 1)) = false,
 decide (IntKind.u64.wrap (IntKind.u64.wrap ((mget (Z n).M (key 1 0 0)) + 1) - (mget (Z n).M (key 1 0 0))) ≥ 2) = false,
 decide (IntKind.u64.wrap ((mget (Z n).M (key 1 0 0)) + 1) ≥ (mget (Z n).M (key 1 0 0))) = true,
 okM (nxM (nxM (memPut (Z n).M 8 (IntKind.i64.wrap (who.tmod 16)) 3 (inW (mget (Z n).M (key 1 0 0)))))) = false,
 okM (nxM (memPut (Z n).M 8 (IntKind.i64.wrap (who.tmod 16)) 3 (inW (mget (Z n).M (key 1 0 0))))) = false,
 (!okM (memPut (Z n).M 8 (IntKind.i64.wrap (who.tmod 16)) 3 (inW (mget (Z n).M (key 1 0 0))))) = false,
 ((mget (Z n).M (key 1 0 0)) != IntKind.u64.wrap (epoch + Int.ofNat n)) = false,
 mget (nxM (nxM (memPut (Z n).M 8 (IntKind.i64.wrap (who.tmod 16)) 3 (inW (mget (Z n).M (key 1 0 0)))))) (key 5 0 0) = 4,
 mget (nxM (memPut (Z n).M 8 (IntKind.i64.wrap (who.tmod 16)) 3 (inW (mget (Z n).M (key 1 0 0))))) (key 5 0 0) = 4,
 mget (memPut (Z n).M 8 (IntKind.i64.wrap (who.tmod 16)) 3 (inW (mget (Z n).M (key 1 0 0)))) (key 5 0 0) = 4,
 (0 : Int) ≤ (8 : Int),
 decide ((IntKind.i64.wrap (who.tmod 16)) ≥ 16) = false,
 decide ((IntKind.i64.wrap (who.tmod 16)) < 0) = false,
 efLP epoch many who n Z,
 (0 : Int) ≤ (5 : Int),
 (0 : Int) ≤ (1 : Int)], true) := by kernel_rfl
theorem efB (epoch many who : Int) (n : Nat) (Z : Nat → MS) : efRun epoch many who [.lp [0,2,7,8,9] (.exit 0) (eflX epoch who n Z n).tmps (eflX epoch who n Z n).hp.heap 3 [2,1], .b false, .b false, .node [], .b false, .b false, .b false, .b false, .b true, .b false, .b false, .b false, .b false, .b true, .b false, .b true] = some (.bool true, [((false == decide ((mget (Z n).M (key 1 0 0)) < 18446744073709551614)) == true) = true,
 decide (IntKind.u64.wrap ((mget (Z n).M (key 1 0 0)) + 2) ≥ (mget (Z n).M (key 1 0 0))) = false,
 okM (memPut (nxM (nxM (nxM (memPut (Z n).M 8 (IntKind.i64.wrap (who.tmod 16)) 3 (inW (mget (Z n).M (key 1 0 0))))))) 8 (IntKind.i64.wrap (who.tmod 16)) 3 0) = true,
 mget (memPut (nxM (nxM (nxM (memPut (Z n).M 8 (IntKind.i64.wrap (who.tmod 16)) 3 (inW (mget (Z n).M (key 1 0 0))))))) 8 (IntKind.i64.wrap (who.tmod 16)) 3 0) (key 5 0 0) = 4,
 (0 : Int) ≤ (8 : Int),
 decide ((IntKind.i64.wrap (who.tmod 16)) ≥ 16) = false,
 decide ((IntKind.i64.wrap (who.tmod 16)) < 0) = false,
 (mget (nxM (nxM (nxM (memPut (Z n).M 8 (IntKind.i64.wrap (who.tmod 16)) 3 (inW (mget (Z n).M (key 1 0 0))))))) (key 1 0 0) != IntKind.u64.wrap ((mget (Z n).M (key 1 0 0)) + 1)) = false,
 decide (IntKind.u64.wrap (IntKind.u64.wrap ((mget (Z n).M (key 1 0 0)) + 1) - (mget (Z n).M (key 1 0 0))) ≥ 2) = false,
 decide (IntKind.u64.wrap ((mget (Z n).M (key 1 0 0)) + 1) ≥ (mget (Z n).M (key 1 0 0))) = true,
 okM (nxM (nxM (memPut (Z n).M 8 (IntKind.i64.wrap (who.tmod 16)) 3 (inW (mget (Z n).M (key 1 0 0)))))) = false,
 okM (nxM (memPut (Z n).M 8 (IntKind.i64.wrap (who.tmod 16)) 3 (inW (mget (Z n).M (key 1 0 0))))) = false,
 (!okM (memPut (Z n).M 8 (IntKind.i64.wrap (who.tmod 16)) 3 (inW (mget (Z n).M (key 1 0 0))))) = false,
 ((mget (Z n).M (key 1 0 0)) != IntKind.u64.wrap (epoch + Int.ofNat n)) = false,
 mget (nxM (nxM (memPut (Z n).M 8 (IntKind.i64.wrap (who.tmod 16)) 3 (inW (mget (Z n).M (key 1 0 0)))))) (key 5 0 0) = 4,
 mget (nxM (memPut (Z n).M 8 (IntKind.i64.wrap (who.tmod 16)) 3 (inW (mget (Z n).M (key 1 0 0))))) (key 5 0 0) = 4,
 mget (memPut (Z n).M 8 (IntKind.i64.wrap (who.tmod 16)) 3 (inW (mget (Z n).M (key 1 0 0)))) (key 5 0 0) = 4,
 (0 : Int) ≤ (8 : Int),
 decide ((IntKind.i64.wrap (who.tmod 16)) ≥ 16) = false,
 decide ((IntKind.i64.wrap (who.tmod 16)) < 0) = false,
 efLP epoch many who n Z,
 (0 : Int) ≤ (5 : Int),
 (0 : Int) ≤ (1 : Int)], true) := by kernel_rfl
theorem efC (epoch many who : Int) (n : Nat) (Z : Nat → MS) : efRun epoch many who [.lp [0,2,7,8,9] (.exit 0) (eflX epoch who n Z n).tmps (eflX epoch who n Z n).hp.heap 3 [2,1], .b false, .b false, .node [], .b false, .b false, .b false, .b false, .b false, .b false, .b false, .b false, .b true, .b false, .b true] = some (.bool true, [((false == decide ((mget (Z n).M (key 1 0 0)) < 18446744073709551614)) == true) = true,
 decide (IntKind.u64.wrap ((mget (Z n).M (key 1 0 0)) + 2) ≥ (mget (Z n).M (key 1 0 0))) = false,
 okM (memPut (nxM (nxM (nxM (memPut (Z n).M 8 (IntKind.i64.wrap (who.tmod 16)) 3 (inW (mget (Z n).M (key 1 0 0))))))) 8 (IntKind.i64.wrap (who.tmod 16)) 3 0) = true,
 mget (memPut (nxM (nxM (nxM (memPut (Z n).M 8 (IntKind.i64.wrap (who.tmod 16)) 3 (inW (mget (Z n).M (key 1 0 0))))))) 8 (IntKind.i64.wrap (who.tmod 16)) 3 0) (key 5 0 0) = 4,
 (0 : Int) ≤ (8 : Int),
 decide ((IntKind.i64.wrap (who.tmod 16)) ≥ 16) = false,
 decide ((IntKind.i64.wrap (who.tmod 16)) < 0) = false,
 (mget (nxM (nxM (nxM (memPut (Z n).M 8 (IntKind.i64.wrap (who.tmod 16)) 3 (inW (mget (Z n).M (key 1 0 0))))))) (key 1 0 0) != IntKind.u64.wrap ((mget (Z n).M (key 1 0 0)) + 1)) = false,
 decide (IntKind.u64.wrap ((mget (Z n).M (key 1 0 0)) + 1) ≥ (mget (Z n).M (key 1 0 0))) = false,
 okM (nxM (nxM (memPut (Z n).M 8 (IntKind.i64.wrap (who.tmod 16)) 3 (inW (mget (Z n).M (key 1 0 0)))))) = false,
 okM (nxM (memPut (Z n).M 8 (IntKind.i64.wrap (who.tmod 16)) 3 (inW (mget (Z n).M (key 1 0 0))))) = false,
 (!okM (memPut (Z n).M 8 (IntKind.i64.wrap (who.tmod 16)) 3 (inW (mget (Z n).M (key 1 0 0))))) = false,
 ((mget (Z n).M (key 1 0 0)) != IntKind.u64.wrap (epoch + Int.ofNat n)) = false,
 mget (nxM (nxM (memPut (Z n).M 8 (IntKind.i64.wrap (who.tmod 16)) 3 (inW (mget (Z n).M (key 1 0 0)))))) (key 5 0 0) = 4,
 mget (nxM (memPut (Z n).M 8 (IntKind.i64.wrap (who.tmod 16)) 3 (inW (mget (Z n).M (key 1 0 0))))) (key 5 0 0) = 4,
 mget (memPut (Z n).M 8 (IntKind.i64.wrap (who.tmod 16)) 3 (inW (mget (Z n).M (key 1 0 0)))) (key 5 0 0) = 4,
 (0 : Int) ≤ (8 : Int),
 decide ((IntKind.i64.wrap (who.tmod 16)) ≥ 16) = false,
 decide ((IntKind.i64.wrap (who.tmod 16)) < 0) = false,
 efLP epoch many who n Z,
 (0 : Int) ≤ (5 : Int),
 (0 : Int) ≤ (1 : Int)], true) := by kernel_rfl

theorem mget_same {M : List Int → Option Int} {k a f v : Int} (h : mayA k a f = true) : mget (memPut M k a f v) (key k a f) = v := by
  simp [memPut, h, mget, setKey]
theorem mget_ne {M : List Int → Option Int} {k a f v : Int} {q : List Int} (h : q ≠ key k a f) : mget (memPut M k a f v) q = mget M q := by
  unfold memPut; split
  · simp [mget, setKey, h]
  · rfl
theorem mget_set_ne {M : List Int → Option Int} {k q : List Int} {v : Option Int} (h : q ≠ k) : mget (setKey M k v) q = mget M q := by simp [mget, setKey, h]
theorem mget_set {M : List Int → Option Int} {k : List Int} {v : Int} : mget (setKey M k (some v)) k = v := by simp [mget, setKey]
theorem key_ne {k k' a a' f f' : Int} (h : k ≠ k') : key k a f ≠ key k' a' f' := by unfold key; intro e; injection e with e1; exact h e1
theorem key_ne2 {k k' a a' f f' : Int} (h : a ≠ a') : key k a f ≠ key k' a' f' := by unfold key; intro e; injection e with e1 e2; injection e2 with e3; exact h e3
theorem u64m' (x : Int) : IntKind.u64.wrap x = x % 18446744073709551616 := by
  simp [IntKind.wrap, IntKind.signed, IntKind.bits]
theorem inW_eq (e : Int) : inW e = 1 + e % 9223372036854775808 * 2 := by
  unfold inW
  have h1 : IntKind.u64.wrap (e * 2) = e % 9223372036854775808 * 2 := by rw [u64m']; omega
  rw [h1, BitVec.or_comm]
  have := or_shift 1 (by decide) (x := 1) (y := e % 9223372036854775808) (by decide) (by decide) (by omega) (by simp; omega)
  have e2 : (e % 9223372036854775808 * 2 ^ 1 : Int) = e % 9223372036854775808 * 2 := by omega
  rw [e2] at this
  rw [this]
  exact u64w (by omega) (by omega)
theorem low_in (e : Int) : lowB (inW e) = true := by
  unfold lowB
  have h := inW_eq e
  have b0 : 0 ≤ inW e := by omega
  have b1 : inW e < 18446744073709551616 := by omega
  rw [and_1 b0 b1]
  have : inW e % 2 = 1 := by omega
  rw [this]; decide
theorem low_0 : lowB 0 = false := by decide
theorem bad_0 {M : List Int → Option Int} {e t : Int} (h : mget M (key 8 t 3) = 0) : badT M e t = false := by
  unfold badT; rw [h, low_0]; rfl
theorem ok_none {M : List Int → Option Int} (h : ∀ t : Nat, t < 16 → badT M (mget M (key 1 0 0)) t = false) : frN M = 16 ∧ okM M = true ∧ nxM M = setKey M (key 1 0 0) (some (IntKind.u64.wrap (mget M (key 1 0 0) + 1))) := by
  have e : frN M = 16 := by unfold frN; exact fnd_none h
  have o : okM M = true := by unfold okM; rw [e]; rfl
  refine ⟨e, o, ?_⟩
  unfold nxM; rw [o]
theorem ok_bad {M : List Int → Option Int} {t : Nat} (ht : t < 16) (h : badT M (mget M (key 1 0 0)) t = true) : okM M = false ∧ nxM M = M := by
  have o : okM M = false := by
    cases hb : okM M with
    | false => rfl
    | true =>
      unfold okM at hb
      have hb := Nat.eq_of_beq_eq_true hb
      unfold frN at hb
      rcases first_true (fun t => badT M (mget M (key 1 0 0)) (t : Nat)) 16 with qno | ⟨k, hk, qk2, qk3⟩
      · have := qno t ht; rw [h] at this; cases this
      · rw [fnd_eq hk qk2 qk3] at hb; omega
  refine ⟨o, ?_⟩
  unfold nxM; rw [o]
noncomputable def efZ (epoch : Int) : Nat → MS
  | 0 => ⟨efM0 epoch, 2, ⟨2, 5, 0, 0, 0, 4, false⟩⟩
  | i + 1 => nL (efZ epoch i).M (efZ epoch i).st (efZ epoch i).L.c (efZ epoch i).L.k (efZ epoch i).L.a (efZ epoch i).L.f (efZ epoch i).L.w (efZ epoch i).L.i (efZ epoch i).L.d
theorem efZ_all (epoch : Int) (h : 0 ≤ epoch ∧ epoch < 18446744073709551616) : ∀ i, mget (efZ epoch i).M (key 5 0 0) = 4 ∧ (∀ t : Int, mget (efZ epoch i).M (key 8 t 3) = 0) ∧ mget (efZ epoch i).M (key 1 0 0) = IntKind.u64.wrap (epoch + Int.ofNat i)
  | 0 => by
    have e0 : (efZ epoch 0).M = efM0 epoch := rfl
    rw [e0]; unfold efM0
    refine ⟨mget_same (by decide), fun t => by rw [mget_ne (key_ne (by decide)), mget_ne (key_ne (by decide))]; rfl, ?_⟩
    rw [mget_ne (key_ne (by decide)), mget_same (by decide)]
    have : epoch + Int.ofNat 0 = epoch := by simp
    rw [this, u64w h.1 h.2]
  | i + 1 => by
    obtain ⟨h1, h2, h3⟩ := efZ_all epoch h i
    have e : (efZ epoch (i + 1)).M = nxM (efZ epoch i).M := by show (nL _ _ _ _ _ _ _ _ _).M = _; exact nL_M ..
    have o := ok_none (M := (efZ epoch i).M) (fun t _ => bad_0 (h2 t))
    rw [e, o.2.2]
    refine ⟨by rw [mget_set_ne (key_ne (by decide))]; exact h1, fun t => by rw [mget_set_ne (key_ne (by decide))]; exact h2 t, ?_⟩
    rw [mget_set, h3, u64m', u64m', u64m']
    have : Int.ofNat (i + 1) = Int.ofNat i + 1 := rfl
    rw [this]; generalize Int.ofNat i = j; omega
theorem ef_runs (epoch many who : Int) (h0 : 0 ≤ epoch ∧ epoch < 18446744073709551616) (h1 : 0 ≤ many ∧ many < 256) (h2 : 0 ≤ who ∧ who < 256) : Runs (efRun epoch many who) := by
  obtain ⟨n, hn⟩ : ∃ n : Nat, (n : Int) = many % 20 := ⟨(many % 20).toNat, by omega⟩
  have hn20 : n < 20 := by omega
  have hnw : IntKind.u64.wrap (many.tmod 20) = Int.ofNat n := by rw [Int.tmod_eq_emod_of_nonneg h1.1, u64w (by omega) (by omega), ← hn]; rfl
  have hall := efZ_all epoch h0
  have hfree : ∀ i, frN (efZ epoch i).M = 16 ∧ okM (efZ epoch i).M = true ∧ nxM (efZ epoch i).M = setKey (efZ epoch i).M (key 1 0 0) (some (IntKind.u64.wrap (mget (efZ epoch i).M (key 1 0 0) + 1))) := fun i => ok_none (fun t _ => bad_0 ((hall i).2.1 t))
  have hlp : efLP epoch many who n (efZ epoch) := by
    have := efl_lp epoch who n (efZ epoch) hn20 (fun i => rfl) (fun i _ => (hfree i).2.1) (fun i _ => (hfree i).1) (fun i _ => (hall i).1)
    unfold eflLP at this
    have e : eflU epoch who n (efZ epoch) = efU epoch many who := by unfold efU; rw [hnw]; rfl
    rw [e] at this
    exact this
  obtain ⟨z1, z2, z3⟩ := hall n
  clear hall hfree
  generalize efZ epoch = Z at *
  obtain ⟨W, hW⟩ : ∃ W : Int, W = (IntKind.i64.wrap (who.tmod 16)) := ⟨_, rfl⟩
  have hWe : W = who % 16 := by rw [hW, i64w (by rw [Int.tmod_eq_emod_of_nonneg h2.1]; omega) (by rw [Int.tmod_eq_emod_of_nonneg h2.1]; omega), Int.tmod_eq_emod_of_nonneg h2.1]
  have w0 : 0 ≤ W := by omega
  have w1 : W < 16 := by omega
  have hA := efA epoch many who n Z
  have hB := efB epoch many who n Z
  have hC := efC epoch many who n Z
  rw [← hW] at hA hB hC
  obtain ⟨t, ht⟩ : ∃ t : Nat, (t : Int) = W := ⟨W.toNat, by omega⟩
  have t16 : t < 16 := by omega
  have mayW : mayA 8 W 3 = true := by simp [mayA, kAt, kFl]; omega
  obtain ⟨E, hE⟩ : ∃ E : Int, E = mget (Z n).M (key 1 0 0) := ⟨_, rfl⟩
  rw [← hE] at hA hB hC z3
  have ne51 : ∀ a f a' f' : Int, key 5 a f ≠ key 1 a' f' := fun _ _ _ _ => key_ne (by decide)
  have ne81 : ∀ a f a' f' : Int, key 8 a f ≠ key 1 a' f' := fun _ _ _ _ => key_ne (by decide)
  have ne58 : ∀ a f a' f' : Int, key 5 a f ≠ key 8 a' f' := fun _ _ _ _ => key_ne (by decide)
  have ne18 : ∀ a f a' f' : Int, key 1 a f ≠ key 8 a' f' := fun _ _ _ _ => key_ne (by decide)
  have eb : 0 ≤ E ∧ E < 18446744073709551616 := by rw [z3, u64m']; omega
  obtain ⟨M1, hM1⟩ : ∃ M1, M1 = memPut (Z n).M 8 W 3 (inW E) := ⟨_, rfl⟩
  rw [← hM1] at hA hB hC
  have a5 : mget M1 (key 5 0 0) = 4 := by rw [hM1, mget_ne (ne58 _ _ _ _)]; exact z1
  have a1 : mget M1 (key 1 0 0) = E := by rw [hM1, mget_ne (ne18 _ _ _ _)]; exact hE.symm
  have aw : mget M1 (key 8 W 3) = inW E := by rw [hM1, mget_same mayW]
  have ao : ∀ x : Int, x ≠ W → mget M1 (key 8 x 3) = 0 := fun x hx => by rw [hM1, mget_ne (key_ne2 hx)]; exact z2 x
  have f1 := ok_none (M := M1) (fun x _ => by
    by_cases q : (x : Int) = W
    · unfold badT; rw [q, aw, a1]; simp [low_in, and2]
    · exact bad_0 (ao _ q))
  obtain ⟨_, o1, n1⟩ := f1
  rw [a1] at n1
  obtain ⟨M2, hM2⟩ : ∃ M2, M2 = setKey M1 (key 1 0 0) (some (IntKind.u64.wrap (E + 1))) := ⟨_, rfl⟩
  rw [← hM2] at n1
  have b1 : mget M2 (key 1 0 0) = IntKind.u64.wrap (E + 1) := by rw [hM2, mget_set]
  have b5 : mget M2 (key 5 0 0) = 4 := by rw [hM2, mget_set_ne (ne51 _ _ _ _)]; exact a5
  have b8 : ∀ x : Int, mget M2 (key 8 x 3) = mget M1 (key 8 x 3) := fun x => by rw [hM2, mget_set_ne (ne81 _ _ _ _)]
  have f2 := ok_bad (M := M2) t16 (by
    unfold badT; rw [ht, b8, aw, b1]
    have : inW E ≠ inW (IntKind.u64.wrap (E + 1)) := by rw [inW_eq, inW_eq, u64m']; omega
    simp [low_in, and2, this])
  obtain ⟨o2, n2⟩ := f2
  rw [n1, n2, n2] at hA hB hC
  obtain ⟨M3, hM3⟩ : ∃ M3, M3 = memPut M2 8 W 3 0 := ⟨_, rfl⟩
  rw [← hM3] at hA hB hC
  have c5 : mget M3 (key 5 0 0) = 4 := by rw [hM3, mget_ne (ne58 _ _ _ _)]; exact b5
  have f3 := ok_none (M := M3) (fun x _ => by
    by_cases q : (x : Int) = W
    · exact bad_0 (by rw [q, hM3, mget_same mayW])
    · exact bad_0 (by rw [hM3, mget_ne (key_ne2 q), b8]; exact ao _ q))
  have lo : decide (W < 0) = false := decide_eq_false (by omega)
  have hi : decide (W ≥ 16) = false := decide_eq_false (by omega)
  have g0 : (E != IntKind.u64.wrap (epoch + Int.ofNat n)) = false := by rw [← z3]; simp
  have g1 : (mget M2 (key 1 0 0) != IntKind.u64.wrap (E + 1)) = false := by rw [b1]; simp
  have no1 : (!okM M1) = false := by rw [o1]; rfl
  rcases (show E < 18446744073709551614 ∨ E = 18446744073709551614 ∨ E = 18446744073709551615 by omega) with c | c | c
  · have q1 : IntKind.u64.wrap (E + 1) = E + 1 := u64w (by omega) (by omega)
    have q2 : IntKind.u64.wrap (E + 2) = E + 2 := u64w (by omega) (by omega)
    have x1 : IntKind.u64.wrap (E + 1 - E) = 1 := by rw [show E + 1 - E = 1 by omega]; rfl
    have x2 : IntKind.u64.wrap (E + 2 - E) = 2 := by rw [show E + 2 - E = 2 by omega]; rfl
    refine ⟨_, _, _, hA, .inl rfl, ?_⟩
    simp only [q2, x2, o2, b5, c5, f3.2.1, lo, hi, a5, no1, g0, g1]
    simp only [q1, x1]
    have y1 : decide (E + 1 ≥ E) = true := decide_eq_true (by omega)
    have y2 : decide (E + 2 ≥ E) = true := decide_eq_true (by omega)
    have y3 : decide (E < 18446744073709551614) = true := decide_eq_true c
    rw [y1, y2, y3]
    intro p hp
    simp only [List.mem_cons, List.not_mem_nil, or_false] at hp
    rcases hp with rfl | rfl | rfl | rfl | rfl | rfl | rfl | rfl | rfl | rfl | rfl | rfl | rfl | rfl | rfl | rfl | rfl | rfl | rfl | rfl | rfl | rfl | rfl <;> first | exact hlp | decide | rfl
  · subst c
    refine ⟨_, _, _, hB, .inl rfl, ?_⟩
    simp only [o2, b5, c5, f3.2.1, lo, hi, a5, no1, g0, g1]
    intro p hp
    simp only [List.mem_cons, List.not_mem_nil, or_false] at hp
    rcases hp with rfl | rfl | rfl | rfl | rfl | rfl | rfl | rfl | rfl | rfl | rfl | rfl | rfl | rfl | rfl | rfl | rfl | rfl | rfl | rfl | rfl | rfl | rfl <;> first | exact hlp | decide | rfl
  · subst c
    refine ⟨_, _, _, hC, .inl rfl, ?_⟩
    simp only [o2, b5, c5, f3.2.1, lo, hi, a5, no1, g0, g1]
    intro p hp
    simp only [List.mem_cons, List.not_mem_nil, or_false] at hp
    rcases hp with rfl | rfl | rfl | rfl | rfl | rfl | rfl | rfl | rfl | rfl | rfl | rfl | rfl | rfl | rfl | rfl | rfl | rfl | rfl | rfl | rfl | rfl <;> first | exact hlp | decide | rfl
theorem hown : ownKnob Try.prog.godebug = none := by kernel_rfl
theorem hlaidOut : laidOutB Try.prog = true := by kernel_rfl
set_option maxRecDepth 100000 in
theorem epochsFree_runs : LawRuns Try.prog 4 [32, 5, 5] := by
  intro H enc W base args ds p hval hA
  obtain ⟨v0, v1, v2, d0, d1, d2, p0, p1, p2, hargs, rfl, rfl, h0, h1, h2⟩ := trodAll_three (args := args.toArray) hA
  obtain rfl : args = [v0, v1, v2] := by simpa using congrArg Array.toList hargs
  obtain ⟨epoch, rfl, repoch⟩ := okWide_num Try.underlying32 (hval 0 32 v0 rfl rfl)
  obtain ⟨many, rfl, rmany⟩ := okWide_num Try.underlying5 (hval 1 5 v1 rfl rfl)
  obtain ⟨who, rfl, rwho⟩ := okWide_num Try.underlying5 (hval 2 5 v2 rfl rfl)
  obtain ⟨h, x, ob, hr, hx, hob⟩ := ef_runs epoch many who (u64_range repoch) (u8_range rmany) (u8_range rwho)
  exact run_lawG (W := W) (ρ := inpT [] []) EFL_ok hr hx hob (heapRepT (heap := []) (ls := []) (tabs := []) (nxt := 1) rfl (by decide) rfl (fun g vs h => by cases h) rep_nil) (xs := [.int .u64 epoch, .int .u8 many, .int .u8 who])
    (by simp [denL, den]) (inpT_fresh (nxt := 1) rfl (Nat.le_refl _)) (inpT_glob (nxt := 1) rfl (by decide))

set_option maxRecDepth 100000 in
theorem epochsFree_lifted (os : Os) (started : os.Started) (H : Type) (enc : TypeId × Value → H) :
    ReturnsInHanded {} Try.checked os 4 .any (Rows.epochsFreeSpec.pre6 enc Try.prog Try.f4 Rows.epochsFreeRow.domain false) (Rows.epochsFreeSpec.post enc Try.prog Try.f4 false true false false) := by
  refine returnsInHanded_of_change (C := Try.checked) hown started (by kernel_rfl) Try.func4
    (ChangeSpec.witness6 (enc := enc) (C := Try.checked) false ⟨#[], #[.int .u64 0, .int .u8 0, .int .u8 0], []⟩ 8 (by kernel_rfl) (by kernel_rfl) (by kernel_rfl) (by kernel_rfl)) ?_
  intro W base args ds gs before hval0 hW hcnd _
  exact law_contract Try.params4 epochsFree_runs hlaidOut (of_decide_eq_true (by kernel_rfl)) (by kernel_rfl) Try.underlying4 rfl
    (fun ds hl => by match ds, hl with | [d0, d1, d2], _ => exact ⟨rfl, rfl, rfl⟩) W base args ds gs before hval0 hW

theorem epochsFree_holds : Rows.EpochsFreeSaid :=
  OpenClaim.holds_of_wide 4 Try.f4 rfl rfl rfl rfl rfl rfl rfl ⟨rfl, rfl, rfl, rfl, rfl⟩ rfl rfl rfl rfl rfl (by kernel_rfl) Try.func4 (by kernel_rfl)
    (of_decide_eq_true (by kernel_rfl)) (by unfold Func.isWrapper; first | (rw [if_pos (by decide +kernel)]; kernel_rfl) | (rw [if_neg (by decide +kernel)]; exact ⟨rfl, rfl⟩))
    (fun os started H enc _ => epochsFree_lifted os started H enc)

#print axioms epochsFree_holds
end Go.Proofs.Ytmhjecenmgbpeaa
