/-
  FreesOnce: from the first loop to the end.
-/
import Derived.Test.YtljeiencnpnbkaaDoorUFpgDef
set_option linter.unusedSimpArgs false
set_option linter.unusedVariables false
namespace Go.Proofs.YtljeiencnpnbkaaDoor
open Go.Ev
theorem pqh_1 (m : Nat) (f : Nat → Nat → AV) (n : Nat) (S : MS) (T : Nat → FW) (ii kk : Nat) (LL : Nat → List Int) : roundB EFo 3000 foR27 ((foU m f n).hp) [(6, Src.nm 6), (7, Src.nm 7)] (locSt foF (f4S m f n S T kk LL) false (foMb (T 6)) 6 []) [] (fcU n (LL 6).length (LQ (LL 6))) =
 some (Ex.norm, [Int.ofNat n = Int.ofNat n,
 (0 : Nat) = 0,
 (LL 6).length = (LL 6).length,
 (none : Option Nat) = none,
 (0 : Nat) = 0,
 n = n,
 some n = some n,
 false = false,
 n ≤ n,
 ((LF fun x => 0) = LF fun x => 0) ∧ plainSh [CK.int IntKind.i64] = true ∨ ∀ (i : Nat), i < n → rowOb [CK.int IntKind.i64] 0 (LF (fun x => 0) i) (LF (fun x => 0) i),
 false = false,
 (LL 6).length ≤ (LL 6).length,
 LF (LQ (LL 6)) = LF (LQ (LL 6)) ∧ plainSh [CK.int IntKind.i64] = true ∨ ∀ (i : Nat), i < (LL 6).length → rowOb [CK.int IntKind.i64] 0 (LF (LQ (LL 6)) i) (LF (LQ (LL 6)) i),
 true = true,
 (1 : Nat) ≤ (1 : Nat),
 tabF tab = tabF tab ∧ plainSh (List.map kindOfV tab) = true ∨ ∀ (i : Nat), i < 1 → rowOb (List.map kindOfV tab) 0 (tabF tab i) (tabF tab i)]) := by kernel_rfl
theorem pqk_1 (n N : Nat) (E : Nat → Int) : roundB EFz 3000 foC6 ((fcX n N E N).hp) [] (fcX n N E N) [Hint.lp [5, 7, 12, 13, 16] (Ex.exit 10) (fdX n N E (scN E N) n).tmps (fdX n N E (scN E N) n).hp.heap 8 [7, 5, 3, 2]] foX2 =
 some (Ex.ret, [TabIs tab (tabF tab),
 fdLP n N E (scN E N)]) := by kernel_rfl
theorem pql_1 (m : Nat) (f : Nat → Nat → AV) (n : Nat) (S : MS) (T : Nat → FW) (kk : Nat) : roundB EFo 3000 (seqs [] Code.skip) (h0F foF (foU m f n)) [(900, Src.nil 1)] (locSt foF (flE m f n S T) true (foMb nilW) kk []) [] (locSt foF (flE m f n S (updW T kk idlW)) true (foMb idlW) kk []) =
 some (Ex.norm, [(0 : Nat) = 0,
 m = m,
 (none : Option Nat) = none,
 Int.ofNat n = Int.ofNat n,
 (0 : Nat) = 0,
 (0 : Nat) = 0,
 (0 : Nat) = 0,
 (6 : Nat) = 6,
 some 6 = some 6,
 (0 : Nat) + 0 = 0,
 false = false,
 (6 : Nat) ≤ (6 : Nat),
 ∀ (i : Nat), i < 6 → rowV (CM.mk 6 6703903964971298549787012499102923063739682910296196688861780721860882015036773488400937149083451713845015929093243025426876941405973284973216824503042048 [(900, Src.nil 1)]) foF.sh 0 (lrow 6703903964971298549787012499102923063739682910296196688861780721860882015036773488400937149083451713845015929093243025426876941405973284973216824503042048 2 (flE m f n S T).M kk i) (lrow 6703903964971298549787012499102923063739682910296196688861780721860882015036773488400937149083451713845015929093243025426876941405973284973216824503042048 2 (flE m f n S (updW T kk idlW)).M kk i),
 true = true,
 (1 : Nat) ≤ (1 : Nat),
 tabF tab = tabF tab ∧ plainSh (List.map kindOfV tab) = true ∨ ∀ (i : Nat), i < 1 → rowOb (List.map kindOfV tab) 0 (tabF tab i) (tabF tab i),
 S.st = S.st,
 S.L.c = S.L.c,
 S.L.k = S.L.k,
 S.L.a = S.L.a,
 S.L.f = S.L.f,
 S.L.w = S.L.w,
 S.L.i = S.L.i,
 S.L.d = S.L.d,
 ∀ (k : List Int), S.M k = S.M k,
 true = true,
 m ≤ m,
 f = f ∧ plainSh [CK.int IntKind.u8] = true ∨ ∀ (i : Nat), i < m → rowOb [CK.int IntKind.u8] 0 (f i) (f i)]) := by kernel_rfl

theorem pqi_1 (m : Nat) (f : Nat → Nat → AV) (n : Nat) : castSt (h0F foF (foU m f n)) [] (foU m f n) (locSt foF (flE m f n (fillS n) fun x => nilW) false (Mb.mk [] []) 6 []) =
 some ([(0 : Nat) = 0,
 m = m,
 (none : Option Nat) = none,
 Int.ofNat n = Int.ofNat n,
 (0 : Nat) = 0,
 (0 : Nat) = 0,
 (0 : Nat) = 0,
 (6 : Nat) = 6,
 some 6 = some 6,
 (6 : Nat) = 6,
 ∀ (i : Nat), i < 6 → rowV (CM.mk 6 6703903964971298549787012499102923063739682910296196688861780721860882015036773488400937149083451713845015929093243025426876941405973284973216824503042048 []) foF.sh 0 (listRow 3 (repeatL [AV.nils, AV.nilp, AV.nilp] 6) i) (lrow 6703903964971298549787012499102923063739682910296196688861780721860882015036773488400937149083451713845015929093243025426876941405973284973216824503042048 2 (flE m f n (fillS n) fun x => nilW).M 6 i),
 true = true,
 (1 : Nat) ≤ (1 : Nat),
 tabF tab = tabF tab ∧ plainSh (List.map kindOfV tab) = true ∨ ∀ (i : Nat), i < 1 → rowOb (List.map kindOfV tab) 0 (tabF tab i) (tabF tab i),
 (fillS n).st = (fillS n).st,
 (fillS n).L.c = (fillS n).L.c,
 (fillS n).L.k = (fillS n).L.k,
 (fillS n).L.a = (fillS n).L.a,
 (fillS n).L.f = (fillS n).L.f,
 (fillS n).L.w = (fillS n).L.w,
 (fillS n).L.i = (fillS n).L.i,
 (fillS n).L.d = (fillS n).L.d,
 ∀ (k : List Int), (fillS n).M k = (fillS n).M k,
 true = true,
 m ≤ m,
 f = f ∧ plainSh [CK.int IntKind.u8] = true ∨ ∀ (i : Nat), i < m → rowOb [CK.int IntKind.u8] 0 (f i) (f i)]) := by kernel_rfl
theorem fo_gives (m : Nat) (f : Nat → Nat → AV) (n : Nat) (S : MS) (T : Nat → FW) (ii kk : Nat) (LL : Nat → List Int) : FOut Tryd.prog foF (foU m f n) foR27 (f4S m f n S T kk LL) .norm (fcU n (LL 6).length (LQ (LL 6))) := by
  refine fout_loc EFo_ok foFam foSOk 6 false (mb := foMb (T 6)) (pqh_1 m f n S T ii kk LL) (ob_cons rfl (ob_cons rfl (ob_cons rfl (ob_cons rfl (ob_cons rfl (ob_cons rfl (ob_cons rfl (ob_cons rfl (ob_cons (Nat.le_refl _) (ob_cons (.inl ⟨rfl, rfl⟩) (ob_cons rfl (ob_cons (Nat.le_refl _) (ob_cons (.inl ⟨rfl, rfl⟩) (ob_cons rfl (ob_cons (Nat.le_refl _) (ob_cons (.inl ⟨rfl, rfl⟩) ob_nil)))))))))))))))) f4Good (fun h => by cases h) rfl
theorem fo_c6 (n N : Nat) (E : Nat → Int) (hlp : fdLP n N E (scN E N)) : CodeHolds Tryd.prog foC6 (fcX n N E N) .ret foX2 := by
  refine code_of EFz_ok (pqk_1 n N E) (ob_cons (tabIs_self _) (ob_cons ?_ ob_nil)) rfl (by show 8 ≤ gnm 0; unfold gnm; omega)
  ·
    first | with_reducible assumption | exact rfl | exact tabIs_self _ | exact hlp | exact hrow | exact fa_rows6 (Nat.le_refl _) T | exact .inl ⟨rfl, rfl⟩ | exact fun _ => rfl | exact .inr (fun i hi => absurd hi (Nat.not_lt_zero i)) | exact hrow0 | (simp; done) | (simp; omega) | omega | trivial
theorem fo_cv (m : Nat) (f : Nat → Nat → AV) (n : Nat) (S : MS) (T : Nat → FW) (kk : Nat) (hk : kk < 6) (hT : T kk = nilW) {c : Code} {e : Ex} {s1 : St} (hc : FOut Tryd.prog foF (foU m f n) c (flE m f n S (updW T kk idlW)) e s1) : FOut Tryd.prog foF (foU m f n) (seqs [] c) (flE m f n S T) e s1 := by
  have r0 : lrow fam0 2 (flE m f n S T).M kk kk 0 = AV.nils := by rw [lrow_j (mb := foMb nilW) (by show foMb (T kk) = _; rw [hT])]; rfl
  have r1 : lrow fam0 2 (flE m f n S T).M kk kk 1 = AV.nilp := by rw [lrow_j (mb := foMb nilW) (by show foMb (T kk) = _; rw [hT])]; rfl
  have r2 : lrow fam0 2 (flE m f n S T).M kk kk 2 = AV.nilp := by rw [lrow_j (mb := foMb nilW) (by show foMb (T kk) = _; rw [hT])]; rfl
  have hrow : ∀ k0, k0 < 6 → rowV (CM.mk 6 fam0 [(900, Src.nil 1)]) [.val, .val, .val] 0 (lrow fam0 2 (flE m f n S T).M kk k0) (lrow fam0 2 (flE m f n S (updW T kk idlW)).M kk k0) := fun k0 hk0 =>
    fam_rowsK (F := foF) (c := CM.mk 6 fam0 [(900, Src.nil 1)]) (n' := 6) (Nat.le_refl _) (M := fun k => foMb (T k)) (M' := fun k => foMb (updW T kk idlW k)) (j := kk) (src := lrow fam0 2 (flE m f n S T).M kk) (fun i _ hi => ⟨foMb_ok _, by show foMb (if i = kk then _ else T i) = _; rw [if_neg hi], fun cc => lrow_ne hi⟩)
      (fun _ => by show rowV _ [.val, .val, .val] 0 _ (fun cc => mrow 2 900 (foMb (if kk = kk then _ else T kk)) cc); rw [if_pos rfl]; exact ⟨valV_eq r0 (valV_nils rfl rfl), valV_eq r1 (valV_nilp), valV_eq r2 (valV_nilp), trivial⟩) k0 hk0
  exact fout_pre EFo_ok foFam foSOk kk true true (mb := foMb nilW) (mb' := foMb idlW) (pql_1 m f n S T kk) (cj ⟨rfl, rfl, rfl, rfl, rfl, rfl, rfl, rfl, rfl, rfl, rfl, Nat.le_refl 6, hrow, rfl, Nat.le_refl 1, .inl ⟨rfl, rfl⟩, rfl, rfl, rfl, rfl, rfl, rfl, rfl, rfl, fun _ => rfl, rfl, Nat.le_refl m, .inl ⟨rfl, rfl⟩, trivial⟩) flGoodE flGoodE (fun _ => hk) (by show foMb (T kk) = _; rw [hT]) (by show foMb (if kk = kk then _ else _) = _; rw [if_pos rfl]) (.inl ⟨rfl, hk⟩) (fun k hk hne => ⟨hk, by show foMb (if k = kk then _ else T k) = foMb (T k); rw [if_neg hne]⟩) hc
theorem fo_loop3 {m : Nat} {f : Nat → Nat → AV} {n : Nat} {S : MS} {T : Nat → FW} {kk : Nat} {LL : Nat → List Int} (hEnd : EndI n S T kk LL) (h0 : ∀ k, k < 6 → (T k).t = 0) : FEx Tryd.prog foF (foU m f n) (.loop foA3) (f3S m f n S T kk LL 0) (.exit 6) (f4S m f n S T kk LL) := by
  refine fex_loop (e := .exit 6) (fun a : Nat => f3S m f n S T kk LL a) (fun a => 6 - a) (fun a => a ≤ 6) (fun a ha => ?_) 0 (by decide)
  by_cases c : a < 6
  · left
    refine ⟨a + 1, c, by show 6 - (a + 1) < 6 - a; omega, ?_⟩
    obtain ⟨H, hL, hlen, hE⟩ := hEnd.st a c
    have ht := h0 a c
    obtain ⟨t, of, len, E, p, u, hT⟩ : ∃ t of len E p u, T a = ⟨t, of, len, E, p, u⟩ := ⟨_, _, _, _, _, _, rfl⟩
    rw [hT] at ht hlen hE
    have ht : t = 0 := ht
    subst ht
    exact pqd_ex m f n S T a of len E p u kk LL c hT hL hlen hE (hEnd.len (a + 1) c)
  · right
    have ha : a ≤ 6 := ha
    obtain rfl : a = 6 := by omega
    exact ⟨by simp, pqe_ex m f n S T 0 kk LL⟩
theorem wr_sub {l l' : List Nat} (h : subB l' l = true) : ∀ n ∈ l, n ∈ l' := subB_get l h
theorem fo_tail {m : Nat} {f : Nat → Nat → AV} {n : Nat} {S : MS} {T : Nat → FW} {kk : Nat} {LL : Nat → List Int} (hn : n ≤ 60) (hEnd : EndI n S T kk LL) (h0 : ∀ k, k < 6 → (T k).t = 0) :
    FOut Tryd.prog foF (foU m f n) (.seq foR21 (.seq foR22 (.seq (.seq foR23 (.block 6 (.loop foA3))) (.seq (.seq foR27 (.block 8 (.loop foA4))) foC6)))) (flE m f n S T) .ret foX2 := by
  have hE : ∀ i (q : i < (LL 6).length), LQ (LL 6) i = (LL 6)[i] := fun i q => LQ_at _ i q
  obtain ⟨o1, o2⟩ := hEnd.one hE
  have h60 := hEnd.len 6 (Nat.le_refl 6)
  have l4 := fc_lp n (LL 6).length (LQ (LL 6)) hn h60 o1
  have l5 := fd_lp n (LL 6).length (LQ (LL 6)) (scN (LQ (LL 6)) (LL 6).length) hn o2
  refine fout_seq (pqa_ex m f n S T 0 kk LL hEnd.u hEnd.kb hEnd.hT hEnd.hE) (fout_seq (pqb_ex m f n S T 0 kk LL hn) (fout_seq (fex_seq (pqc_ex m f n S T 0 kk LL hEnd.l0) (fex_block (fo_loop3 hEnd h0))) ?_))
  have m1 : Mono (foU m f n).hp (fcU n (LL 6).length (LQ (LL 6))).hp := ⟨fun p hp => (by cases hp), by show 6 ≤ 8; decide, rfl, wr_sub rfl⟩
  have m2 : Mono (fcU n (LL 6).length (LQ (LL 6))).hp (fcX n (LL 6).length (LQ (LL 6)) (LL 6).length).hp := ⟨fun p hp => (by cases hp), Nat.le_refl 8, rfl, wr_sub rfl⟩
  have m3 : Mono (fcX n (LL 6).length (LQ (LL 6)) (LL 6).length).hp foX2.hp := ⟨fun p hp => (by cases hp), Nat.le_refl 8, rfl, wr_sub rfl⟩
  exact fout_then (fout_then (fo_gives m f n S T 0 kk LL) (code_block l4) rfl m1 m2) (fo_c6 n _ _ l5) rfl (m1.trans m2) m3
theorem fo_out {m : Nat} {f : Nat → Nat → AV} {n : Nat} (hm : m ≤ 600) (hn : n ≤ 60) (hf0 : ∀ i, i < m → 0 ≤ avInt (f i 0)) {S0 : MS} {T0 : Nat → FW} (hW : WI n S0 T0 0) : FOut Tryd.prog foF (foU m f n) foC0 (flE m f n S0 T0) .ret foX2 := by
  rw [foC0_eq]
  obtain ⟨y, ⟨S, T, rfl, hW1⟩, hl1⟩ := fl_loop1 hm hn hf0 hW
  obtain ⟨y, ⟨S', T', rfl, hW2, hz⟩, hl2⟩ := fl_loop2 (m := m) (f := f) (by omega) hW1
  obtain ⟨kk, LL, hEnd⟩ := hW2.end hz
  exact fout_seq (fex_seq (pqf_ex m f n S0 T0 0 0 (fun _ => [])) (fex_block hl1)) (fout_seq (fex_seq (pqg_ex m f n S T 0 0 (fun _ => [])) (fex_block hl2)) (fo_tail hn hEnd hz))
theorem wi_start {n : Nat} (hn : n ≤ 60) {T : Nat → FW} (hT : ∀ k, k < 6 → T k = idlW) : WI n (fillS n) T 0 :=
  ⟨fun _ => idleP, downL n, n, FI.start (fill_ok n hn) hn, by omega, fun k hk => by rw [hT k hk]; exact ⟨rfl, Nat.zero_le _, rfl, Nat.le_refl _, fun k h => absurd h (Nat.not_lt_zero k), (fun h => by cases h), (fun h => by cases h)⟩⟩
theorem fo_code {m : Nat} {f : Nat → Nat → AV} {n : Nat} (hm : m ≤ 600) (hn : n ≤ 60) (hf0 : ∀ i, i < m → 0 ≤ avInt (f i 0)) : CodeHolds Tryd.prog foC0 (foU m f n) .ret foX2 := by
  have hfin : FOut Tryd.prog foF (foU m f n) foC0 (flE m f n (fillS n) (fun _ => nilW)) .ret foX2 := by
    refine fo_cv m f n _ _ 0 (by decide) rfl ?_
    refine fo_cv m f n _ _ 1 (by decide) rfl ?_
    refine fo_cv m f n _ _ 2 (by decide) rfl ?_
    refine fo_cv m f n _ _ 3 (by decide) rfl ?_
    refine fo_cv m f n _ _ 4 (by decide) rfl ?_
    refine fo_cv m f n _ _ 5 (by decide) rfl ?_
    refine fo_out hm hn hf0 (wi_start hn (fun k hk => ?_))
    match k, hk with
    | 0, _ => rfl
    | 1, _ => rfl
    | 2, _ => rfl
    | 3, _ => rfl
    | 4, _ => rfl
    | 5, _ => rfl
    | k + 6, hk => omega
  have hrow0 : ∀ i, i < 6 → rowV (CM.mk 6 fam0 []) [.val, .val, .val] 0 (listRow 3 (repeatL [.nils, .nilp, .nilp] 6) i) (lrow fam0 2 (flE m f n (fillS n) (fun _ => nilW)).M 6 i) := by
    intro i hi
    have e : ∀ cc, lrow fam0 2 (flE m f n (fillS n) (fun _ => nilW)).M 6 i cc = mrow 2 (fam0 + 2 * i) (foMb nilW) cc := fun cc => lrow_ne (by omega)
    have hnil : valV (CM.mk 6 fam0 []) .nils .nils := ⟨rfl, fun ρ x hx => hx⟩
    match i, hi with
    | 0, _ => exact ⟨hnil, valV_nilp, valV_nilp, trivial⟩
    | 1, _ => exact ⟨hnil, valV_nilp, valV_nilp, trivial⟩
    | 2, _ => exact ⟨hnil, valV_nilp, valV_nilp, trivial⟩
    | 3, _ => exact ⟨hnil, valV_nilp, valV_nilp, trivial⟩
    | 4, _ => exact ⟨hnil, valV_nilp, valV_nilp, trivial⟩
    | 5, _ => exact ⟨hnil, valV_nilp, valV_nilp, trivial⟩
    | i + 6, hi => omega
  refine fout_code foFam foSOk flGoodE (fun k _ => rfl) (pqi_1 m f n) (ob_cons rfl (ob_cons rfl (ob_cons rfl (ob_cons rfl (ob_cons rfl (ob_cons rfl (ob_cons rfl (ob_cons rfl (ob_cons rfl (ob_cons rfl (ob_cons ?_ (ob_cons rfl (ob_cons (Nat.le_refl _) (ob_cons (.inl ⟨rfl, rfl⟩) (ob_cons rfl (ob_cons rfl (ob_cons rfl (ob_cons rfl (ob_cons rfl (ob_cons rfl (ob_cons rfl (ob_cons rfl (ob_cons (fun _ => rfl) (ob_cons rfl (ob_cons (Nat.le_refl _) (ob_cons (.inl ⟨rfl, rfl⟩) ob_nil)))))))))))))))))))))))))) hfin
  ·
    first | exact fun _ => rfl | exact hrow0 | exact .inl ⟨rfl, rfl⟩ | exact fun _ => rfl | exact rfl

end Go.Proofs.YtljeiencnpnbkaaDoor
