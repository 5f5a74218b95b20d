/-
  For all inputs, SnapsMoved returns true; its arguments read as before. No condition.
-/
import Derived.Test.YtmlfmmnnbdlabaaNSzDef
import Derived.Test.YtmlfmmnnbdlabaaEvMix
set_option linter.unusedSimpArgs false
set_option linter.unusedVariables false
namespace Go.Proofs.Ytmlfmmnnbdlabaa
open Go.Ev Go.ChangeShapes Go.WideShapes Go.ChangeAt Go.RowKit
set_option maxRecDepth 100000
section
variable (n : Nat) (g : Nat → Nat → AV) (z0 z1 w wt : Int)
theorem szq_1 (al : Nat) (s : SV) : (callF Esz 5000 6 [AV.agg [AV.ss 10 1 0 n none, AV.sym IntKind.u8 z0, AV.sym IntKind.u8 z1, AV.sym IntKind.u64 w, AV.sym IntKind.u8 wt]] ⟨[(1, AO.arr 10 tSh true n g)], 2, gnm 0, [Hint.b true], [], [], false⟩).map (fun x => (x.1, x.2.ob, noneIn [(1, AO.arr 10 tSh true n g)] x.2.wr)) =
 some (AV.bool true, [(Int.ofNat n == 0) = true], true) := by kernel_rfl
theorem szq_2 (al : Nat) (s : SV) : (callF Esz 5000 6 [AV.agg [AV.ss 10 1 0 n none, AV.sym IntKind.u8 z0, AV.sym IntKind.u8 z1, AV.sym IntKind.u64 w, AV.sym IntKind.u8 wt]] ⟨[(1, AO.arr 10 tSh true n g)], 2, gnm 0, [Hint.b false, Hint.b true], [], [], false⟩).map (fun x => (x.1, x.2.ob, noneIn [(1, AO.arr 10 tSh true n g)] x.2.wr)) =
 some (AV.bool true, [decide (Int.ofNat n > 16) = true,
 (Int.ofNat n == 0) = false], true) := by kernel_rfl
theorem szq_3 (al : Nat) (s : SV) : (callF Esz 5000 6 [AV.agg [AV.ss 10 1 0 n none, AV.sym IntKind.u8 z0, AV.sym IntKind.u8 z1, AV.sym IntKind.u64 w, AV.sym IntKind.u8 wt]] ⟨[(1, AO.arr 10 tSh true n g)], 2, gnm 0, [Hint.b false, Hint.b false, Hint.lp [1, 3, 4, 5] Ex.ret (soR n g z0 z1 w wt).tmps (soR n g z0 z1 w wt).hp.heap 3 [], Hint.b true], [], [], false⟩).map (fun x => (x.1, x.2.ob, noneIn [(1, AO.arr 10 tSh true n g)] x.2.wr)) =
 some (AV.bool true, [soLQ n g z0 z1 w wt,
 decide (Int.ofNat n > 16) = false,
 (Int.ofNat n == 0) = false], true) := by kernel_rfl
theorem szp_1 (al : Nat) (s : SV) : (callF Esz 5000 6 [AV.agg [AV.ss 10 1 0 n none, AV.sym IntKind.u8 z0, AV.sym IntKind.u8 z1, AV.sym IntKind.u64 w, AV.sym IntKind.u8 wt]] ⟨[(1, AO.arr 10 tSh true n g)], 2, gnm 0, [Hint.b true], [], [], false⟩).map (fun x => (x.1, x.2.ob, noneIn [(1, AO.arr 10 tSh true n g)] x.2.wr)) =
 some (AV.bool true, [(Int.ofNat n == 0) = true], true) := by kernel_rfl
theorem szp_2 (al : Nat) (s : SV) : (callF Esz 5000 6 [AV.agg [AV.ss 10 1 0 n none, AV.sym IntKind.u8 z0, AV.sym IntKind.u8 z1, AV.sym IntKind.u64 w, AV.sym IntKind.u8 wt]] ⟨[(1, AO.arr 10 tSh true n g)], 2, gnm 0, [Hint.b false, Hint.b true], [], [], false⟩).map (fun x => (x.1, x.2.ob, noneIn [(1, AO.arr 10 tSh true n g)] x.2.wr)) =
 some (AV.bool true, [decide (Int.ofNat n > 16) = true,
 (Int.ofNat n == 0) = false], true) := by kernel_rfl
theorem szp_3 (al : Nat) (s : SV) : (callF Esz 5000 6 [AV.agg [AV.ss 10 1 0 n none, AV.sym IntKind.u8 z0, AV.sym IntKind.u8 z1, AV.sym IntKind.u64 w, AV.sym IntKind.u8 wt]] ⟨[(1, AO.arr 10 tSh true n g)], 2, gnm 0, [Hint.b false, Hint.b false, Hint.lp [1, 3, 4, 5] (Ex.exit 0) (soX n g z0 z1 w wt).tmps (soX n g z0 z1 w wt).hp.heap 3 [], Hint.lp [3, 4, 6, 7, 8, 9, 10, 11, 12] (Ex.exit 2) (svX n al g z0 z1 w wt (zBl n) (zWho n z0) (zFd z1) (zWh n wt) s).tmps (svX n al g z0 z1 w wt (zBl n) (zWho n z0) (zFd z1) (zWh n wt) s).hp.heap 7 [6], Hint.b false, Hint.b false, Hint.lp [3, 4, 8, 9, 10, 13, 14] (Ex.exit 4) (scX n al g s.F (fun i j => s.F (0 + i) j) w (zWho n z0) (zFd z1) (zWh n wt) s.ta s.fl s.m).tmps (scX n al g s.F (fun i j => s.F (0 + i) j) w (zWho n z0) (zFd z1) (zWh n wt) s.ta s.fl s.m).hp.heap 12 [], Hint.b true], [], [], false⟩).map (fun x => (x.1, x.2.ob, noneIn [(1, AO.arr 10 tSh true n g)] x.2.wr)) =
 some (AV.bool true, [scLP n al g s.F (fun i j => s.F (0 + i) j) w (zWho n z0) (zFd z1) (zWh n wt) s.ta s.fl s.m,
 (Int.ofNat (al - 0) != IntKind.i64.wrap (4 * zBl n)) = false,
 (Nat.blt 0 (capOr (some al) al) || Nat.beq 0 0) = true,
 (al.ble (capOr (some al) al) && decide (0 ≤ Int.ofNat al)) = true,
 (al.ble (capOr none al) && decide (0 ≤ Int.ofNat al)) = true,
 al.beq 0 = false,
 (al * 80).ble 70368744177664 = true,
 (0 + al).ble al = true,
 Nat.blt 0 al = true,
 svLP n al g z0 z1 w wt (zBl n) (zWho n z0) (zFd z1) (zWh n wt) (zX n g) s,
 decide (IntKind.i64.wrap (1 + IntKind.i64.wrap (10 * Int.ofNat n)) ≠ 0) = true,
 decide (Int.ofNat n ≠ 0) = true,
 n = n,
 n ≤ 16,
 soLP n g z0 z1 w wt,
 decide (Int.ofNat n > 16) = false,
 (Int.ofNat n == 0) = false], true) := by kernel_rfl
theorem sz_runsQ (al : Nat) (s : SV) (K : Nat) (hKn : K < n) (hK : avInt (g K 0) = 0) (hb : ∀ i, i < K → avInt (g i 0) ≠ 0) : Runs (szRun n g z0 z1 w wt) := by
  have hq := fun h => so_lq n g z0 z1 w wt h K hKn hK hb
  cases h1 : (Int.ofNat n == 0) with
  | true =>
    refine ⟨_, _, _, szq_1 n g z0 z1 w wt al s, .inl rfl, (ob_cons h1 ob_nil)⟩
  | false =>
    cases h2 : (decide (Int.ofNat n > 16)) with
    | true =>
      have g2 := of_decide_eq_true h2
      try simp only [Int.ofNat_eq_natCast, ge_iff_le, gt_iff_lt, Int.not_lt, Int.not_le] at g2
      refine ⟨_, _, _, szq_2 n g z0 z1 w wt al s, .inl rfl, (ob_cons h2 (ob_cons h1 ob_nil))⟩
    | false =>
      have g2 := of_decide_eq_false h2
      try simp only [Int.ofNat_eq_natCast, ge_iff_le, gt_iff_lt, Int.not_lt, Int.not_le] at g2
      refine ⟨_, _, _, szq_3 n g z0 z1 w wt al s, .inl rfl, (ob_cons ?_ (ob_cons h2 (ob_cons h1 ob_nil)))⟩
      ·
        first | exact hq (by omega) | exact ho (by omega) | exact hlp (by omega) (by omega) | exact hc (by omega) (by omega) | exact h16 | exact (hd (by omega) (by omega)).1 | exact (hd (by omega) (by omega)).2.1 | exact (hd (by omega) (by omega)).2.2.1 | exact (hd (by omega) (by omega)).2.2.2.1 | exact (hd (by omega) (by omega)).2.2.2.2.1 | exact (hd (by omega) (by omega)).2.2.2.2.2.1 | exact (hd (by omega) (by omega)).2.2.2.2.2.2 | omega | trivial
theorem zX_word (hn : n ≤ 16) (a f : Nat) (h : f < 10) : mget (zX n g).M (key 8 (Int.ofNat a) (Int.ofNat f)) = if a < n then avInt (g a f) else 0 := by
  unfold zX
  rw [layN_get g _ a f h n hn]
  by_cases c : a < n
  · rw [if_pos c, if_pos c]
  · rw [if_neg c, if_neg c]
    show mget (memPut _ 5 0 0 _) _ = 0
    rw [mget_put, if_neg (fun q => by exact absurd q.2.1 (by decide))]
    rfl
theorem zBl_eq (hn : n ≤ 16) : zBl n = Int.ofNat ((n + 3) / 4) := by
  unfold zBl
  rw [i64w (x := Int.ofNat n + 3) (by simp; omega) (by simp; omega)]
  have e : (Int.ofNat n + 3).tdiv 4 = Int.ofNat ((n + 3) / 4) := rfl
  rw [e, i64w (by simp; omega) (by simp; omega)]
theorem zX_blk (hn : n ≤ 16) : mget (zX n g).M (key 5 0 0) = Int.ofNat ((n + 3) / 4) := by
  unfold zX
  rw [layN_blk]
  show mget (memPut _ 5 0 0 _) _ = _
  rw [mget_put, if_pos ⟨rfl, rfl, rfl, rfl⟩, zBl_eq n hn]
  have : Int.ofNat ((n + 3) / 4) = (((n + 3) / 4 : Nat) : Int) := rfl
  rw [this]
  show (if (false && decide ((((n + 3) / 4 : Nat) : Int) % 18446744073709551616 ≥ (9223372036854775808 : Int))) = true then (((n + 3) / 4 : Nat) : Int) % 18446744073709551616 - 18446744073709551616 else (((n + 3) / 4 : Nat) : Int) % 18446744073709551616) = _
  simp; omega
theorem sz_runs (a0 : 0 ≤ z0 ∧ z0 < 256) (a1 : 0 ≤ z1 ∧ z1 < 256) (a3 : 0 ≤ wt ∧ wt < 256) : Runs (szRun n g z0 z1 w wt) := by
  rcases first_true (fun i => avInt (g i 0) == 0) n with hno | ⟨K, hKn, hK, hb⟩
  · have ho : ∀ i, i < n → avInt (g i 0) ≠ 0 := fun i hi => by simpa using hno i hi
    cases h1 : (Int.ofNat n == 0) with
    | true => exact ⟨_, _, _, szp_1 n g z0 z1 w wt 0 ⟨ms0, 0, 0, fun _ _ => .top⟩, .inl rfl, (ob_cons h1 ob_nil)⟩
    | false =>
      cases h2 : (decide (Int.ofNat n > 16)) with
      | true => exact ⟨_, _, _, szp_2 n g z0 z1 w wt 0 ⟨ms0, 0, 0, fun _ _ => .top⟩, .inl rfl, (ob_cons h2 (ob_cons h1 ob_nil))⟩
      | false =>
        have hn : n ≤ 16 := by have := of_decide_eq_false h2; simp at this; omega
        have hn0 : 0 < n := by have : Int.ofNat n ≠ 0 := by simpa using h1
                               have h : n ≠ 0 := fun e => this (by rw [e]; rfl)
                               omega
        have hz0 : IntKind.i64.wrap z0 = z0 := i64w (by omega) (by omega)
        have hz1 : IntKind.i64.wrap z1 = z1 := i64w (by omega) (by omega)
        have hz3 : IntKind.i64.wrap wt = wt := i64w (by omega) (by omega)
        have hwho : 0 ≤ zWho n z0 ∧ zWho n z0 < Int.ofNat n := by
          unfold zWho; rw [hz0]; exact ⟨Int.tmod_nonneg _ a0.1, Int.tmod_lt_of_pos _ (by simp; omega)⟩
        have hfd : 1 ≤ zFd z1 ∧ zFd z1 ≤ 9 := by
          unfold zFd; rw [hz1]
          have q1 := Int.tmod_nonneg 9 a1.1
          have q2 := Int.tmod_lt_of_pos z1 (b := 9) (by decide)
          rw [i64w (by omega) (by omega)]; omega
        have hm : IntKind.i64.wrap (1 + IntKind.i64.wrap (10 * Int.ofNat n)) = 1 + 10 * Int.ofNat n := by
          rw [i64w (x := 10 * Int.ofNat n) (by simp; omega) (by simp; omega)]; exact i64w (by simp; omega) (by simp; omega)
        have hwh : 0 ≤ zWh n wt := by
          unfold zWh; rw [hz3]; exact Int.tmod_nonneg _ a3.1
        have hx := fun a f h => zX_word n g hn a f h
        have hbk := zX_blk n g hn
        have hbl := zBl_eq n hn
        obtain ⟨b, hb⟩ : ∃ b, b = (n + 3) / 4 := ⟨_, rfl⟩
        rw [← hb] at hbk hbl
        obtain ⟨al, hal⟩ : ∃ al, al = 4 * b := ⟨_, rfl⟩
        obtain ⟨K, hK⟩ : ∃ K, K = 10 * n + (al - n) := ⟨_, rfl⟩
        generalize hW : zWho n z0 = who at hwho
        generalize hF : zFd z1 = fd at hfd
        generalize hH : zWh n wt = wh at hwh
        have hall := sv_all (g := g) (w := w) hwh hwho hn hfd hx ho
        have hmb : mget (svM who fd w wh 0 (zX n g)).M (key 5 0 0) = Int.ofNat b := by rw [svM_blk, hbk]
        have htb : tbN (svM who fd w wh 0 (zX n g)).M = Int.ofNat al := by
          unfold tbN
          rw [hmb, if_neg (by simp; omega)]
          simp; omega
        have hta : ∀ k, k < K → svTa n k < al := fun k hk => by
          by_cases p : k < 10 * n
          · rw [(svp_lo p).1]; omega
          · rw [(svp_hi p).1]; omega
        have hfl : ∀ k, svFl n k ≤ 9 := fun k => by
          by_cases p : k < 10 * n
          · rw [(svp_lo p).2]; omega
          · rw [(svp_hi p).2]; omega
        have hlp := sv_lp n al g z0 z1 w wt (zBl n) who fd wh K (zX n g) (by omega) (by omega) (by rw [hmb]; simp) htb (by omega)
          (fun k hk => by
            obtain ⟨q1, q2, q3, _⟩ := hall k
            have t1 := hta k hk
            have t2 := hfl k
            refine ⟨by rw [q2]; simp, by rw [q2]; simp; omega, by rw [q1]; simp, by rw [q1]; simpa using t1, rfl, by omega, fun hne => ?_⟩
            rw [q2] at hne
            have hne2 : svFl n k ≠ 0 := fun e => hne (by rw [e]; rfl)
            have p : k < 10 * n := Classical.byContradiction (fun p => hne2 (svp_hi p).2)
            have lt := (svp_lt n k).2 p
            have kk := svp_k lt
            rw [q1]
            show avInt ((svN who fd w wh (zX n g) k).F (svTa n k) 0) ≠ 0
            rw [q3]
            show svF g w who fd wh n k (svTa n k) 0 ≠ 0
            unfold svF
            rw [if_pos ⟨by omega, lt, by omega⟩]
            unfold svV
            rw [if_neg (fun p => by have := p.2.1; simp at this; omega)]
            exact ho _ lt)
          (fun k hk e => by
            rw [(hall k).ta] at e
            have := hta k hk
            have e2 := Int.ofNat.inj e
            omega)
          (by
            rw [(hall K).ta]
            have : svTa n K = al := by
              rw [(svp_hi (show ¬ K < 10 * n by omega)).1]; omega
            rw [this])
        have hsF := (hall K).F
        generalize svN who fd w wh (zX n g) K = s at *
        have hc := se_lp n al g s.F (fun i j => s.F (0 + i) j) w who fd wh s.ta s.fl s.m hn (by omega) (by omega) ⟨by omega, by omega⟩ ⟨hwho.1, by have := hwho.2; simp at this; omega⟩
          (fun i j hi hj => by
            unfold SameW
            rw [gW_at _ i j hj, gW_at g i j hj]
            show avInt (s.F (0 + i) j) = _
            rw [Nat.zero_add, hsF i j]
            show svF g w who fd wh n K i j = _
            unfold svF
            rw [if_pos ⟨by omega, hi, hj⟩]
            rfl)
        have e1 : (Int.ofNat (al - 0) != IntKind.i64.wrap (4 * zBl n)) = false := by
          rw [hbl, i64w (x := 4 * Int.ofNat b) (by simp; omega) (by simp; omega)]
          have : Int.ofNat (al - 0) = 4 * Int.ofNat b := by simp; omega
          rw [this]; simp
        subst hW; subst hF; subst hH
        refine ⟨_, _, _, szp_3 n g z0 z1 w wt al s, .inl rfl, (cj ⟨hc, e1, ?_, ?_, ?_, ?_, ?_, ?_, ?_, hlp, ?_, ?_, rfl, hn, so_lp n g z0 z1 w wt hn ho, h2, h1, trivial⟩)⟩
        · simp [capOr]
        · simp [capOr]
        · simp [capOr]
        · cases al with
          | zero => omega
          | succ _ => rfl
        · exact Nat.ble_eq_true_of_le (by omega)
        · exact Nat.ble_eq_true_of_le (by omega)
        · simp [Nat.blt_eq]; omega
        · rw [hm]; exact decide_eq_true (by simp; omega)
        · exact decide_eq_true (by simp; omega)
  · exact sz_runsQ n g z0 z1 w wt 0 ⟨ms0, 0, 0, fun _ _ => .top⟩ K hKn (by simpa using hK) (fun i hi => by simpa using hb i hi)

end
theorem hown : ownKnob Try.prog.godebug = none := by kernel_rfl
theorem hlaidOut : laidOutB Try.prog = true := by kernel_rfl
theorem k71 : flatK Try.prog 4 71 = some tSh := by kernel_rfl
set_option maxRecDepth 100000 in
theorem snapsMoved_runs : LawRuns Try.prog 6 [68] := by
  intro H enc W base args ds p hval hA
  obtain ⟨v0, d0, hargs, rfl, h0⟩ := trodAll_one (args := args.toArray) hA
  obtain rfl : args = [v0] := by simpa using congrArg Array.toList hargs
  obtain ⟨cs0, rfl, hlen0, hA0, hB0⟩ := open_cells Try.underlying68 (n := 6) (ls := [65, 5, 5, 32, 5]) (ts := [65, 5, 5, 32, 5]) (by kernel_rfl) (by kernel_rfl) (hval 0 68 v0 rfl rfl) h0
  obtain ⟨u0, u1, u2, u3, u4, rfl⟩ : ∃ u0 u1 u2 u3 u4, cs0 = [u0, u1, u2, u3, u4] := by match cs0, hlen0 with | [u0, u1, u2, u3, u4], _ => exact ⟨_, _, _, _, _, rfl⟩
  obtain ⟨y0, fuel0, z0_, q0_, h0⟩ := hA0 0 65 rfl
  obtain rfl : u0 = y0 := by simpa using q0_
  have hc0 : Value.okWide Try.prog W Reach.any base 65 u0 := by have q := hB0 0 65 u0 rfl rfl; simpa [Value.okWide, Try.underlying65] using q
  obtain ⟨c0, l0, q0, rfl⟩ := okWide_slice Try.underlying65 hc0
  obtain ⟨L0, len0, num0, bit0, hw0, hs0, hl0, hm0, hn0, hob0, hwf0⟩ := open_rows Try.underlying65 k71 (by kernel_rfl) (by decide) (okWide_spot Try.underlying65 hc0) h0
  have hs0 : L0.slice 10 0 len0 none = some (.slice c0 l0 q0) := hs0
  obtain ⟨y1, f1_, z1_, q1_, t1_⟩ := hA0 1 5 rfl
  obtain rfl : u1 = y1 := by simpa using q1_
  obtain ⟨z0, g1_, _, rz0⟩ := DataW.trod_int Try.underlying5 t1_
  obtain rfl : u1 = .int .u8 z0 := by simpa using g1_
  obtain ⟨y2, f2_, z2_, q2_, t2_⟩ := hA0 2 5 rfl
  obtain rfl : u2 = y2 := by simpa using q2_
  obtain ⟨z1, g2_, _, rz1⟩ := DataW.trod_int Try.underlying5 t2_
  obtain rfl : u2 = .int .u8 z1 := by simpa using g2_
  obtain ⟨y3, f3_, z3_, q3_, t3_⟩ := hA0 3 32 rfl
  obtain rfl : u3 = y3 := by simpa using q3_
  obtain ⟨w, g3_, _, rw⟩ := DataW.trod_int Try.underlying32 t3_
  obtain rfl : u3 = .int .u64 w := by simpa using g3_
  obtain ⟨y4, f4_, z4_, q4_, t4_⟩ := hA0 4 5 rfl
  obtain rfl : u4 = y4 := by simpa using q4_
  obtain ⟨wt, g4_, _, rwt⟩ := DataW.trod_int Try.underlying5 t4_
  obtain rfl : u4 = .int .u8 wt := by simpa using g4_
  obtain ⟨h, x, ob, hr, hx, hob⟩ := sz_runs len0 (rowAV tSh num0 bit0) z0 z1 w wt (u8_range rz0) (u8_range rz1) (u8_range rwt)
  have e0 : inpT [(1, L0)] [] 1 = some L0 := inpT_of rfl
  exact run_lawG (W := W) (ρ := inpT [(1, L0)] []) Esz_ok hr hx hob (heapRepT (heap := [(1, .arr 10 tSh true len0 (rowAV tSh num0 bit0))]) (ls := [(1, L0)]) (tabs := []) (nxt := 2) rfl (by decide) rfl (fun g vs h => by cases h) (rep_cons rfl rfl hob0 rep_nil)) (xs := [.agg #[.slice c0 l0 q0, .int .u8 z0, .int .u8 z1, .int .u64 w, .int .u8 wt]])
    (by simp [denL, den, e0, hs0]) (inpT_fresh (nxt := 2) rfl (Nat.le_refl _)) (inpT_glob (nxt := 2) rfl (by decide))

set_option maxRecDepth 100000 in
theorem snapsMoved_lifted (os : Os) (started : os.Started) (H : Type) (enc : TypeId × Value → H) :
    ReturnsInHanded {} Try.checked os 6 .any (Rows.snapsMovedSpec.pre6 enc Try.prog Try.f6 Rows.snapsMovedRow.domain false) (Rows.snapsMovedSpec.post enc Try.prog Try.f6 false true false false) := by
  refine returnsInHanded_of_change (C := Try.checked) hown started (by kernel_rfl) Try.func6
    (ChangeSpec.witness6 (enc := enc) (C := Try.checked) false ⟨#[], #[.agg #[.slice none 0 0, .int .u8 0, .int .u8 0, .int .u64 0, .int .u8 0]], []⟩ 8 (by kernel_rfl) (by kernel_rfl) (by kernel_rfl) (by kernel_rfl)) ?_
  intro W base args ds gs before hval0 hW hcnd _
  exact law_contract Try.params6 snapsMoved_runs hlaidOut (of_decide_eq_true (by kernel_rfl)) (by kernel_rfl) Try.underlying4 rfl
    (fun ds hl => by match ds, hl with | [d0], _ => exact ⟨rfl, rfl, rfl⟩) W base args ds gs before hval0 hW

theorem snapsMoved_holds : Rows.SnapsMovedSaid :=
  OpenClaim.holds_of_wide 6 Try.f6 rfl rfl rfl rfl rfl rfl rfl ⟨rfl, rfl, rfl, rfl, rfl⟩ rfl rfl rfl rfl rfl (by kernel_rfl) Try.func6 (by kernel_rfl)
    (of_decide_eq_true (by kernel_rfl)) (by unfold Func.isWrapper; first | (rw [if_pos (by decide +kernel)]; kernel_rfl) | (rw [if_neg (by decide +kernel)]; exact ⟨rfl, rfl⟩))
    (fun os started H enc _ => snapsMoved_lifted os started H enc)

#print axioms snapsMoved_holds
end Go.Proofs.Ytmlfmmnnbdlabaa
