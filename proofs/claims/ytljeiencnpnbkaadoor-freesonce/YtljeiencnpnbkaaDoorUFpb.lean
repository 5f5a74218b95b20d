/-
  FreesOnce: the first loop.
-/
import Derived.Test.YtljeiencnpnbkaaDoorUFpbDef
set_option linter.unusedSimpArgs false
set_option linter.unusedVariables false
namespace Go.Proofs.YtljeiencnpnbkaaDoor
open Go.Ev
theorem fpP_1 (m : Nat) (f : Nat → Nat → AV) (n : Nat) (S : MS) (T : Nat → FW) (ii kk : Nat) : roundB EFo 3000 foP (h0F foF (foU m f n)) [] (locSt foF (flS m f n S T ii) false (foMb (T 6)) 6 []) [Hint.b true] (locSt foF (flS m f n S T ii) false (foMb (T 6)) 6 []) =
 some (Ex.norm, [(0 : Nat) = 0,
 m = m,
 (none : Option Nat) = none,
 Int.ofNat n = Int.ofNat n,
 (0 : Nat) = 0,
 (0 : Nat) = 0,
 (0 : Nat) = 0,
 (6 : Nat) = 6,
 some 6 = some 6,
 Int.ofNat ii = Int.ofNat ii,
 false = false,
 (6 : Nat) ≤ (6 : Nat),
 ∀ (i : Nat), i < 6 → rowV (CM.mk 6 6703903964971298549787012499102923063739682910296196688861780721860882015036773488400937149083451713845015929093243025426876941405973284973216824503042048 []) foF.sh 0 (lrow 6703903964971298549787012499102923063739682910296196688861780721860882015036773488400937149083451713845015929093243025426876941405973284973216824503042048 2 (flS m f n S T ii).M 6 i) (lrow 6703903964971298549787012499102923063739682910296196688861780721860882015036773488400937149083451713845015929093243025426876941405973284973216824503042048 2 (flS m f n S T ii).M 6 i),
 true = true,
 (1 : Nat) ≤ (1 : Nat),
 tabF tab = tabF tab ∧ plainSh (List.map kindOfV tab) = true ∨ ∀ (i : Nat), i < 1 → rowOb (List.map kindOfV tab) 0 (tabF tab i) (tabF tab i),
 S.st = S.st,
 S.L.c = S.L.c,
 S.L.k = S.L.k,
 S.L.a = S.L.a,
 S.L.f = S.L.f,
 S.L.w = S.L.w,
 S.L.i = S.L.i,
 S.L.d = S.L.d,
 ∀ (k : List Int), S.M k = S.M k,
 true = true,
 m ≤ m,
 f = f ∧ plainSh [CK.int IntKind.u8] = true ∨ ∀ (i : Nat), i < m → rowOb [CK.int IntKind.u8] 0 (f i) (f i),
 decide (Int.ofNat ii < Int.ofNat m) = true]) := by kernel_rfl
theorem fpP_ex (m : Nat) (f : Nat → Nat → AV) (n : Nat) (S : MS) (T : Nat → FW) (ii kk : Nat) (h : ii < m) : FEx Tryd.prog foF (foU m f n) foP (flS m f n S T ii) .norm (flS m f n S T ii) := by
  have hii : decide (Int.ofNat ii < Int.ofNat m) = true := decide_eq_true (by simp; omega)
  refine fex_loc EFo_ok foFam foSOk 6 false false (mb := foMb (T 6)) (mb' := foMb (T 6)) (fpP_1 m f n S T ii kk) (cj ⟨rfl, rfl, rfl, rfl, rfl, rfl, rfl, rfl, rfl, rfl, rfl, Nat.le_refl _, fa_rows6 (Nat.le_refl _) T, rfl, Nat.le_refl _, .inl ⟨rfl, rfl⟩, rfl, rfl, rfl, rfl, rfl, rfl, rfl, rfl, (fun _ => rfl), rfl, Nat.le_refl _, .inl ⟨rfl, rfl⟩, (by with_reducible assumption), trivial⟩) flGood flGood (fun h => by cases h) rfl rfl (.inr ⟨rfl, Nat.le_refl _⟩) (fun k hk _ => ⟨hk, rfl⟩)
theorem fpI_1 (m : Nat) (f : Nat → Nat → AV) (n : Nat) (S : MS) (T : Nat → FW) (ii kk : Nat) : roundB EFo 3000 foIf (h0F foF (foU m f n)) [] (locSt foF (flS2 m f n S T ii) false (foMb (T 6)) 6 []) [] (locSt foF (flS m f n S T ii) false (foMb (T 6)) 6 []) =
 some (Ex.norm, [(0 : Nat) = 0,
 m = m,
 (none : Option Nat) = none,
 Int.ofNat n = Int.ofNat n,
 (0 : Nat) = 0,
 (0 : Nat) = 0,
 (0 : Nat) = 0,
 (6 : Nat) = 6,
 some 6 = some 6,
 Int.ofNat ii = Int.ofNat ii,
 false = false,
 (6 : Nat) ≤ (6 : Nat),
 ∀ (i : Nat), i < 6 → rowV (CM.mk 6 6703903964971298549787012499102923063739682910296196688861780721860882015036773488400937149083451713845015929093243025426876941405973284973216824503042048 []) foF.sh 0 (lrow 6703903964971298549787012499102923063739682910296196688861780721860882015036773488400937149083451713845015929093243025426876941405973284973216824503042048 2 (flS2 m f n S T ii).M 6 i) (lrow 6703903964971298549787012499102923063739682910296196688861780721860882015036773488400937149083451713845015929093243025426876941405973284973216824503042048 2 (flS m f n S T ii).M 6 i),
 true = true,
 (1 : Nat) ≤ (1 : Nat),
 tabF tab = tabF tab ∧ plainSh (List.map kindOfV tab) = true ∨ ∀ (i : Nat), i < 1 → rowOb (List.map kindOfV tab) 0 (tabF tab i) (tabF tab i),
 S.st = S.st,
 S.L.c = S.L.c,
 S.L.k = S.L.k,
 S.L.a = S.L.a,
 S.L.f = S.L.f,
 S.L.w = S.L.w,
 S.L.i = S.L.i,
 S.L.d = S.L.d,
 ∀ (k : List Int), S.M k = S.M k,
 true = true,
 m ≤ m,
 f = f ∧ plainSh [CK.int IntKind.u8] = true ∨ ∀ (i : Nat), i < m → rowOb [CK.int IntKind.u8] 0 (f i) (f i)]) := by kernel_rfl
theorem fpI_ex (m : Nat) (f : Nat → Nat → AV) (n : Nat) (S : MS) (T : Nat → FW) (ii kk : Nat)  : FEx Tryd.prog foF (foU m f n) foIf (flS2 m f n S T ii) .norm (flS m f n S T ii) := by
  refine fex_loc EFo_ok foFam foSOk 6 false false (mb := foMb (T 6)) (mb' := foMb (T 6)) (fpI_1 m f n S T ii kk) (cj ⟨rfl, rfl, rfl, rfl, rfl, rfl, rfl, rfl, rfl, rfl, rfl, Nat.le_refl _, fa_rows6 (Nat.le_refl _) T, rfl, Nat.le_refl _, .inl ⟨rfl, rfl⟩, rfl, rfl, rfl, rfl, rfl, rfl, rfl, rfl, (fun _ => rfl), rfl, Nat.le_refl _, .inl ⟨rfl, rfl⟩, trivial⟩) flGood2 flGood (fun h => by cases h) rfl rfl (.inr ⟨rfl, Nat.le_refl _⟩) (fun k hk _ => ⟨hk, rfl⟩)
theorem fpZ_1 (m : Nat) (f : Nat → Nat → AV) (n : Nat) (S : MS) (T : Nat → FW) (ii kk : Nat) : roundB EFo 3000 foZ (h0F foF (foU m f n)) [] (locSt foF (flS m f n S T ii) false (foMb (T 6)) 6 []) [] (locSt foF (flS m f n S T (ii + 1)) false (foMb (T 6)) 6 []) =
 some (Ex.norm, [(0 : Nat) = 0,
 m = m,
 (none : Option Nat) = none,
 Int.ofNat n = Int.ofNat n,
 (0 : Nat) = 0,
 (0 : Nat) = 0,
 (0 : Nat) = 0,
 (6 : Nat) = 6,
 some 6 = some 6,
 IntKind.i64.wrap (Int.ofNat ii + 1) = Int.ofNat (ii + 1),
 false = false,
 (6 : Nat) ≤ (6 : Nat),
 ∀ (i : Nat), i < 6 → rowV (CM.mk 6 6703903964971298549787012499102923063739682910296196688861780721860882015036773488400937149083451713845015929093243025426876941405973284973216824503042048 []) foF.sh 0 (lrow 6703903964971298549787012499102923063739682910296196688861780721860882015036773488400937149083451713845015929093243025426876941405973284973216824503042048 2 (flS m f n S T ii).M 6 i) (lrow 6703903964971298549787012499102923063739682910296196688861780721860882015036773488400937149083451713845015929093243025426876941405973284973216824503042048 2 (flS m f n S T (ii + 1)).M 6 i),
 true = true,
 (1 : Nat) ≤ (1 : Nat),
 tabF tab = tabF tab ∧ plainSh (List.map kindOfV tab) = true ∨ ∀ (i : Nat), i < 1 → rowOb (List.map kindOfV tab) 0 (tabF tab i) (tabF tab i),
 S.st = S.st,
 S.L.c = S.L.c,
 S.L.k = S.L.k,
 S.L.a = S.L.a,
 S.L.f = S.L.f,
 S.L.w = S.L.w,
 S.L.i = S.L.i,
 S.L.d = S.L.d,
 ∀ (k : List Int), S.M k = S.M k,
 true = true,
 m ≤ m,
 f = f ∧ plainSh [CK.int IntKind.u8] = true ∨ ∀ (i : Nat), i < m → rowOb [CK.int IntKind.u8] 0 (f i) (f i)]) := by kernel_rfl
theorem fpZ_ex (m : Nat) (f : Nat → Nat → AV) (n : Nat) (S : MS) (T : Nat → FW) (ii kk : Nat) (h : ii < 1000) : FEx Tryd.prog foF (foU m f n) foZ (flS m f n S T ii) .norm (flS m f n S T (ii + 1)) := by
  have hiw : IntKind.i64.wrap (Int.ofNat ii + 1) = Int.ofNat (ii + 1) := by rw [i64w (by simp; omega) (by simp; omega)]; simp
  refine fex_loc EFo_ok foFam foSOk 6 false false (mb := foMb (T 6)) (mb' := foMb (T 6)) (fpZ_1 m f n S T ii kk) (cj ⟨rfl, rfl, rfl, rfl, rfl, rfl, rfl, rfl, rfl, (by with_reducible assumption), rfl, Nat.le_refl _, fa_rows6 (Nat.le_refl _) T, rfl, Nat.le_refl _, .inl ⟨rfl, rfl⟩, rfl, rfl, rfl, rfl, rfl, rfl, rfl, rfl, (fun _ => rfl), rfl, Nat.le_refl _, .inl ⟨rfl, rfl⟩, trivial⟩) flGood flGood (fun h => by cases h) rfl rfl (.inr ⟨rfl, Nat.le_refl _⟩) (fun k hk _ => ⟨hk, rfl⟩)
theorem fpX_1 (m : Nat) (f : Nat → Nat → AV) (n : Nat) (S : MS) (T : Nat → FW) (ii kk : Nat) : roundB EFo 3000 foL (h0F foF (foU m f n)) [] (locSt foF (flS m f n S T m) false (foMb (T 6)) 6 []) [Hint.b false] (locSt foF (flE m f n S T) false (foMb (T 6)) 6 []) =
 some (Ex.exit 0, [(0 : Nat) = 0,
 m = m,
 (none : Option Nat) = none,
 Int.ofNat n = Int.ofNat n,
 (0 : Nat) = 0,
 (0 : Nat) = 0,
 (0 : Nat) = 0,
 (6 : Nat) = 6,
 some 6 = some 6,
 false = false,
 (6 : Nat) ≤ (6 : Nat),
 ∀ (i : Nat), i < 6 → rowV (CM.mk 6 6703903964971298549787012499102923063739682910296196688861780721860882015036773488400937149083451713845015929093243025426876941405973284973216824503042048 []) foF.sh 0 (lrow 6703903964971298549787012499102923063739682910296196688861780721860882015036773488400937149083451713845015929093243025426876941405973284973216824503042048 2 (flS m f n S T m).M 6 i) (lrow 6703903964971298549787012499102923063739682910296196688861780721860882015036773488400937149083451713845015929093243025426876941405973284973216824503042048 2 (flE m f n S T).M 6 i),
 true = true,
 (1 : Nat) ≤ (1 : Nat),
 tabF tab = tabF tab ∧ plainSh (List.map kindOfV tab) = true ∨ ∀ (i : Nat), i < 1 → rowOb (List.map kindOfV tab) 0 (tabF tab i) (tabF tab i),
 S.st = S.st,
 S.L.c = S.L.c,
 S.L.k = S.L.k,
 S.L.a = S.L.a,
 S.L.f = S.L.f,
 S.L.w = S.L.w,
 S.L.i = S.L.i,
 S.L.d = S.L.d,
 ∀ (k : List Int), S.M k = S.M k,
 true = true,
 m ≤ m,
 f = f ∧ plainSh [CK.int IntKind.u8] = true ∨ ∀ (i : Nat), i < m → rowOb [CK.int IntKind.u8] 0 (f i) (f i),
 decide (Int.ofNat m < Int.ofNat m) = false]) := by kernel_rfl
theorem fpX_ex (m : Nat) (f : Nat → Nat → AV) (n : Nat) (S : MS) (T : Nat → FW) (ii kk : Nat)  : FEx Tryd.prog foF (foU m f n) foL (flS m f n S T m) (.exit 0) (flE m f n S T) := by
  refine fex_loc EFo_ok foFam foSOk 6 false false (mb := foMb (T 6)) (mb' := foMb (T 6)) (fpX_1 m f n S T ii kk) (cj ⟨rfl, rfl, rfl, rfl, rfl, rfl, rfl, rfl, rfl, rfl, Nat.le_refl _, fa_rows6 (Nat.le_refl _) T, rfl, Nat.le_refl _, .inl ⟨rfl, rfl⟩, rfl, rfl, rfl, rfl, rfl, rfl, rfl, rfl, (fun _ => rfl), rfl, Nat.le_refl _, .inl ⟨rfl, rfl⟩, (by (simp; done)), trivial⟩) flGood flGoodE (fun h => by cases h) rfl rfl (.inr ⟨rfl, Nat.le_refl _⟩) (fun k hk _ => ⟨hk, rfl⟩)
theorem psO1_ln (S : MS) (s : Int) : (psO1 S s).ln ≠ 0 := by unfold psO1; rw [pshX_eq]; show (2 : Int) ≠ 0; decide
theorem ppO1_ok (S : MS) : (ppO1 S).ok = false := by
  unfold ppO1
  rw [popX_eq]
  by_cases c : hSlot (mget S.M (key 0 0 0)) < 0
  · rw [popO_1a c]
  · rw [popO_1b c]
theorem fl_step {m : Nat} {f : Nat → Nat → AV} {n : Nat} {S : MS} {T : Nat → FW} {ii j B : Nat} (hii : ii < m) (hj : j < 6) (hr0 : 0 ≤ (avInt (f (0 + ii) 0)).tmod 6) (hjt : ((avInt (f (0 + ii) 0)).tmod 6).toNat = j) (hW : WI n S T B) (hB : B ≤ 1000) :
    ∃ S' T', WI n S' T' (B + 1) ∧ FEx Tryd.prog foF (foU m f n) foStep (flS m f n S T ii) .norm (flS m f n S' T' ii) := by
  obtain ⟨t, of, len, E, p, u, hT⟩ : ∃ t of len E p u, T j = ⟨t, of, len, E, p, u⟩ := ⟨_, _, _, _, _, _, rfl⟩
  have hu := hW.u64
  have ht : t ≤ 2 := by have := hW.t2 hj; rw [hT] at this; exact this
  have hlen : len ≤ B := by have := hW.lenB hj; rw [hT] at this; exact this
  match t, ht, hT with
  | 0, _, hT =>
    cases hpv : ((IntKind.u8.wrap ((avInt (f (0 + ii) 0)).tdiv 6)).tmod 2 == 1) with
    | true =>
      by_cases hl : 0 < len
      · obtain ⟨hb, he0, he1⟩ := hW.bpush hj hT rfl hl (of' := 0) (E' := fun k => E (of + 1 + k)) (fun k => by rw [Nat.zero_add])
        have hp := ((hb.push hj (updW_eq _ _ _) rfl (by omega)).1 (psO1_ln S (E of))).1
        rw [updW_upd] at hp
        exact ⟨_, _, hp, fsA_ex m f n S T ii j of len E p u 0 hii hj hr0 hjt hT hu hpv hl he0 he1 (psO1_ln S (E of))⟩
      · have hb := hW.bpop hj hT rfl
        have hp := hb.pop hj (updW_eq _ _ _) rfl (by omega)
        simp only [updW_upd] at hp
        by_cases hz : (ppO1 S).ln = 0
        · exact ⟨_, _, hp.2.2.1 hz (ppO1_ok S) p u, fsB2y_ex m f n S T ii j of len E p u 0 hii hj hr0 hjt hT hu hpv (by omega) hz (ppO1_ok S)⟩
        · exact ⟨_, _, (hp.1 hz).1, fsB1y_ex m f n S T ii j of len E p u 0 hii hj hr0 hjt hT hu hpv (by omega) hz⟩
    | false =>
      have hb := hW.bpop hj hT rfl
      have hp := hb.pop hj (updW_eq _ _ _) rfl (by omega)
      simp only [updW_upd] at hp
      by_cases hz : (ppO1 S).ln = 0
      · exact ⟨_, _, hp.2.2.1 hz (ppO1_ok S) p u, fsB2x_ex m f n S T ii j of len E p u 0 hii hj hr0 hjt hT hu hpv hz (ppO1_ok S)⟩
      · exact ⟨_, _, (hp.1 hz).1, fsB1x_ex m f n S T ii j of len E p u 0 hii hj hr0 hjt hT hu hpv hz⟩
  | 1, _, hT =>
    have hpo := hW.po hj hT rfl
    have hp := hW.pop hj hT rfl (by omega)
    by_cases hz : (popX S p).ln = 0
    · cases hk : (popX S p).ok with
      | true => exact ⟨_, _, hp.2.1 hz hk p u, fsC2_ex m f n S T ii j of len E p u 0 hii hj hr0 hjt hT hu hpo hz hk (by omega)⟩
      | false => exact ⟨_, _, hp.2.2.1 hz hk p u, fsC3_ex m f n S T ii j of len E p u 0 hii hj hr0 hjt hT hu hpo hz hk⟩
    · exact ⟨_, _, (hp.1 hz).1, fsC1_ex m f n S T ii j of len E p u 0 hii hj hr0 hjt hT hu hpo hz⟩
  | 2, _, hT =>
    have huo := hW.uo hj hT rfl
    have hp := hW.push hj hT rfl (by omega)
    by_cases hz : (pshX S u).ln = 0
    · exact ⟨_, _, hp.2.1 hz p u, fsD2_ex m f n S T ii j of len E p u 0 hii hj hr0 hjt hT hu huo hz⟩
    · exact ⟨_, _, (hp.1 hz).1, fsD1_ex m f n S T ii j of len E p u 0 hii hj hr0 hjt hT hu huo hz⟩
  | t + 3, ht, _ => exact absurd ht (by show ¬ t + 3 ≤ 2; omega)
theorem fl_loop1 {m : Nat} {f : Nat → Nat → AV} {n : Nat} (hm : m ≤ 600) (hn : n ≤ 60) (hf0 : ∀ i, i < m → 0 ≤ avInt (f i 0)) {S0 : MS} {T0 : Nat → FW} (h0 : WI n S0 T0 0) :
    ∃ y, (∃ S T, y = flE m f n S T ∧ WI n S T m) ∧ FEx Tryd.prog foF (foU m f n) (.loop foL) (flS m f n S0 T0 0) (.exit 0) y := by
  refine fex_loopE (e := .exit 0) (X := Nat × MS × (Nat → FW)) (fun v => flS m f n v.2.1 v.2.2 v.1) (fun v => m - v.1) (fun v => v.1 ≤ m ∧ WI n v.2.1 v.2.2 v.1) (fun y => ∃ S T, y = flE m f n S T ∧ WI n S T m) (by simp) (fun v hv => ?_) (0, S0, T0) ⟨Nat.zero_le _, h0⟩
  obtain ⟨i, S, T⟩ := v
  obtain ⟨hi, hW⟩ := hv
  simp only at hi hW ⊢
  by_cases c : i < m
  · left
    have hr0 : 0 ≤ (avInt (f (0 + i) 0)).tmod 6 := Int.tmod_nonneg _ (by rw [Nat.zero_add]; exact hf0 i c)
    have hj : ((avInt (f (0 + i) 0)).tmod 6).toNat < 6 := by have := Int.tmod_lt_of_pos (avInt (f (0 + i) 0)) (b := 6) (by decide); omega
    obtain ⟨S', T', hW', hstep⟩ := fl_step c hj hr0 rfl hW (by omega)
    refine ⟨(i + 1, S', T'), ⟨c, hW'⟩, by show m - (i + 1) < m - i; omega, ?_⟩
    rw [foL_eq]
    exact fex_seq (fpP_ex m f n S T i 0 c) (fex_seq (fex_blockN (fex_seq hstep (fex_seq (fl_call hn (hW'.apart (by omega))) (fpI_ex m f n S' T' i 0)))) (fpZ_ex m f n S' T' i 0 (by omega)))
  · right
    obtain rfl : i = m := by omega
    exact ⟨_, ⟨S, T, rfl, hW⟩, fpX_ex i f n S T 0 0⟩

end Go.Proofs.YtljeiencnpnbkaaDoor
