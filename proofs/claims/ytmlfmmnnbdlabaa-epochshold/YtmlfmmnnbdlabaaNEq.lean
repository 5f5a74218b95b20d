/-
  EpochsHold: the loop.
-/
import Derived.Test.YtmlfmmnnbdlabaaNEqDef
set_option linter.unusedSimpArgs false
set_option linter.unusedVariables false
namespace Go.Proofs.Ytmlfmmnnbdlabaa
open Go.Ev
theorem hp_1 (m : Nat) (f : Nat → Nat → AV) (e0 : Int) (ii : Nat) (x y : HX) : roundB Ehd 3000 hdP (h0F hdF (hdU m f e0)) [(5, Src.nm 5)] (locSt hdF (hdT m f ii x) false (hdMb 8 (x.O 8)) 8 []) [Hint.b true] (locSt hdF (hdT m f ii x) false (hdMb 8 (x.O 8)) 8 []) =
 some (Ex.norm, [(0 : Nat) = 0,
 m = m,
 (none : Option Nat) = none,
 (0 : Nat) = 0,
 (0 : Nat) = 0,
 (0 : Nat) = 0,
 (8 : Nat) = 8,
 some 8 = some 8,
 hdE x.S = hdE x.S,
 Int.ofNat ii = Int.ofNat ii,
 false = false,
 (8 : Nat) ≤ (8 : Nat),
 ∀ (i : Nat), i < 8 → rowV (CM.mk 5 6703903964971298549787012499102923063739682910296196688861780721860882015036773488400937149083451713845015929093243025426876941405973284973216824503042048 [(5, Src.nm 5)]) hdF.sh 0 (lrow 6703903964971298549787012499102923063739682910296196688861780721860882015036773488400937149083451713845015929093243025426876941405973284973216824503042048 1 (hdT m f ii x).M 8 i) (lrow 6703903964971298549787012499102923063739682910296196688861780721860882015036773488400937149083451713845015929093243025426876941405973284973216824503042048 1 (hdT m f ii x).M 8 i),
 x.S.st = x.S.st,
 x.S.L.c = x.S.L.c,
 x.S.L.k = x.S.L.k,
 x.S.L.a = x.S.L.a,
 x.S.L.f = x.S.L.f,
 x.S.L.w = x.S.L.w,
 x.S.L.i = x.S.L.i,
 x.S.L.d = x.S.L.d,
 ∀ (k : List Int), x.S.M k = x.S.M k,
 true = true,
 m ≤ m,
 f = f ∧ plainSh [CK.int IntKind.u8] = true ∨ ∀ (i : Nat), i < m → rowOb [CK.int IntKind.u8] 0 (f i) (f i),
 decide (Int.ofNat ii < Int.ofNat m) = true]) := by kernel_rfl
theorem hy_1 (m : Nat) (f : Nat → Nat → AV) (e0 : Int) (ii : Nat) (x y : HX) : roundB Ehd 3000 hdY (h0F hdF (hdU m f e0)) [(5, Src.nm 5)] (locSt hdF (hdT1 m f ii y) false (hdMb 8 (y.O 8)) 8 []) [Hint.lp [1, 5, 6, 8, 9, 10] (Ex.exit 2) (hkX m f y.S (lrow fam0 1 (hdT1 m f ii y).M 8) (hdE y.S) ii 8).tmps (hkX m f y.S (lrow fam0 1 (hdT1 m f ii y).M 8) (hdE y.S) ii 8).hp.heap 1000 []] (locSt hdF (hdT2 m f ii y) false (hdMb 8 (y.O 8)) 8 []) =
 some (Ex.norm, [(0 : Nat) = 0,
 m = m,
 (none : Option Nat) = none,
 (0 : Nat) = 0,
 (0 : Nat) = 0,
 (0 : Nat) = 0,
 (8 : Nat) = 8,
 some 8 = some 8,
 hdE y.S = hdE y.S,
 Int.ofNat ii = Int.ofNat ii,
 false = false,
 (8 : Nat) ≤ (8 : Nat),
 ∀ (i : Nat), i < 8 → rowV (CM.mk 5 6703903964971298549787012499102923063739682910296196688861780721860882015036773488400937149083451713845015929093243025426876941405973284973216824503042048 [(5, Src.nm 5)]) hdSh 0 (lrow fam0 1 (hdT1 m f ii y).M 8 i) (lrow 6703903964971298549787012499102923063739682910296196688861780721860882015036773488400937149083451713845015929093243025426876941405973284973216824503042048 1 (hdT2 m f ii y).M 8 i),
 y.S.st = y.S.st,
 y.S.L.c = y.S.L.c,
 y.S.L.k = y.S.L.k,
 y.S.L.a = y.S.L.a,
 y.S.L.f = y.S.L.f,
 y.S.L.w = y.S.L.w,
 y.S.L.i = y.S.L.i,
 y.S.L.d = y.S.L.d,
 ∀ (k : List Int), y.S.M k = y.S.M k,
 true = true,
 m ≤ m,
 f = f ∧ plainSh [CK.int IntKind.u8] = true ∨ ∀ (i : Nat), i < m → rowOb [CK.int IntKind.u8] 0 (f i) (f i),
 hkLP m f y.S (lrow fam0 1 (hdT1 m f ii y).M 8) (hdE y.S) ii]) := by kernel_rfl
theorem hz_1 (m : Nat) (f : Nat → Nat → AV) (e0 : Int) (ii : Nat) (x y : HX) : roundB Ehd 3000 hdZ (h0F hdF (hdU m f e0)) [(5, Src.nm 5)] (locSt hdF (hdT2 m f ii y) false (hdMb 8 (y.O 8)) 8 []) [] (locSt hdF (hdT m f (ii + 1) y) false (hdMb 8 (y.O 8)) 8 []) =
 some (Ex.norm, [(0 : Nat) = 0,
 m = m,
 (none : Option Nat) = none,
 (0 : Nat) = 0,
 (0 : Nat) = 0,
 (0 : Nat) = 0,
 (8 : Nat) = 8,
 some 8 = some 8,
 hdE y.S = hdE y.S,
 IntKind.i64.wrap (Int.ofNat ii + 1) = Int.ofNat (ii + 1),
 false = false,
 (8 : Nat) ≤ (8 : Nat),
 ∀ (i : Nat), i < 8 → rowV (CM.mk 5 6703903964971298549787012499102923063739682910296196688861780721860882015036773488400937149083451713845015929093243025426876941405973284973216824503042048 [(5, Src.nm 5)]) hdF.sh 0 (lrow 6703903964971298549787012499102923063739682910296196688861780721860882015036773488400937149083451713845015929093243025426876941405973284973216824503042048 1 (hdT2 m f ii y).M 8 i) (lrow 6703903964971298549787012499102923063739682910296196688861780721860882015036773488400937149083451713845015929093243025426876941405973284973216824503042048 1 (hdT m f (ii + 1) y).M 8 i),
 y.S.st = y.S.st,
 y.S.L.c = y.S.L.c,
 y.S.L.k = y.S.L.k,
 y.S.L.a = y.S.L.a,
 y.S.L.f = y.S.L.f,
 y.S.L.w = y.S.L.w,
 y.S.L.i = y.S.L.i,
 y.S.L.d = y.S.L.d,
 ∀ (k : List Int), y.S.M k = y.S.M k,
 true = true,
 m ≤ m,
 f = f ∧ plainSh [CK.int IntKind.u8] = true ∨ ∀ (i : Nat), i < m → rowOb [CK.int IntKind.u8] 0 (f i) (f i)]) := by kernel_rfl
theorem hq_1 (m : Nat) (f : Nat → Nat → AV) (e0 : Int) (ii : Nat) (x y : HX) : roundB Ehd 3000 hdL ((hdU m f e0).hp) [] (locSt hdF (hdT m f ii x) false (hdMb 8 (x.O 8)) 8 []) [Hint.b false] (hdX m f x.S) =
 some (Ex.exit 0, [(0 : Nat) = 0,
 m = m,
 (none : Option Nat) = none,
 x.S.st = x.S.st,
 x.S.L.c = x.S.L.c,
 x.S.L.k = x.S.L.k,
 x.S.L.a = x.S.L.a,
 x.S.L.f = x.S.L.f,
 x.S.L.w = x.S.L.w,
 x.S.L.i = x.S.L.i,
 x.S.L.d = x.S.L.d,
 ∀ (k : List Int), x.S.M k = x.S.M k,
 true = true,
 m ≤ m,
 f = f ∧ plainSh [CK.int IntKind.u8] = true ∨ ∀ (i : Nat), i < m → rowOb [CK.int IntKind.u8] 0 (f i) (f i),
 decide (Int.ofNat ii < Int.ofNat m) = false]) := by kernel_rfl
theorem hi_1 (m : Nat) (f : Nat → Nat → AV) (e0 : Int) : castSt (h0F hdF (hdU m f e0)) [(5, Src.nm 4)] (hdU m f e0) (locSt hdF (hdT m f 0 (hdN f e0 0)) false (Mb.mk [] []) 8 []) =
 some ([(0 : Nat) = 0,
 m = m,
 (none : Option Nat) = none,
 (0 : Nat) = 0,
 (0 : Nat) = 0,
 (0 : Nat) = 0,
 (8 : Nat) = 8,
 some 8 = some 8,
 e0.tmod 1099511627776 = hdE (hdN f e0 0).S,
 (0 : Int) = 0,
 (8 : Nat) = 8,
 ∀ (i : Nat), i < 8 → rowV (CM.mk 5 6703903964971298549787012499102923063739682910296196688861780721860882015036773488400937149083451713845015929093243025426876941405973284973216824503042048 [(5, Src.nm 4)]) hdF.sh 0 (listRow 5 (repeatL [AV.bool false, AV.int IntKind.u64 0, AV.nilp, AV.nilp, AV.nilp] 8) i) (lrow 6703903964971298549787012499102923063739682910296196688861780721860882015036773488400937149083451713845015929093243025426876941405973284973216824503042048 1 (hdT m f 0 (hdN f e0 0)).M 8 i),
 (2 : Int) = 2,
 (2 : Int) = 2,
 (5 : Int) = 5,
 (0 : Int) = 0,
 (0 : Int) = 0,
 (0 : Int) = 0,
 (2 : Int) = 2,
 false = (hdN f e0 0).S.L.d,
 ∀ (k : List Int), (hdS0 e0).M k = (hdN f e0 0).S.M k,
 true = true,
 m ≤ m,
 f = f ∧ plainSh [CK.int IntKind.u8] = true ∨ ∀ (i : Nat), i < m → rowOb [CK.int IntKind.u8] 0 (f i) (f i)]) := by kernel_rfl
theorem hd_c0 (q b k : Nat) (o : HO) : mrow q b (hdMb k o) 0 = .symb o.i := by
  obtain ⟨t, i, a, e, p⟩ := o
  match t with
  | 0 => rfl
  | 1 => rfl
  | 2 => rfl
  | 3 => rfl
  | t + 4 => rfl
theorem hd_c1 (q b k : Nat) (o : HO) : mrow q b (hdMb k o) 1 = .sym .u64 o.a := by
  obtain ⟨t, i, a, e, p⟩ := o
  match t with
  | 0 => rfl
  | 1 => rfl
  | 2 => rfl
  | 3 => rfl
  | t + 4 => rfl
theorem hd_V (x : HX) (c : CM) (hc : c.hi ≤ fam0) : ∀ i, i < 8 → rowV c hdSh 0 (lrow fam0 1 (fun k => hdMb k (x.O k)) 8 i) (lrow fam0 1 (fun k => hdMb k (x.O k)) 8 i) :=
  fam_rowsK (F := hdF) hc (M := fun k => hdMb k (x.O k)) (fun i _ hi => ⟨hdMb_ok i _, rfl, fun cc => lrow_ne hi⟩) (fun h => absurd h (by omega))
theorem in_raw {e : Int} (h0 : 0 ≤ e) (h1 : e < 4611686018427387904) : IntKind.u64.wrap ↑(BitVec.ofInt 64 (IntKind.u64.wrap (e * 2)) ||| BitVec.ofInt 64 1).toNat = 2 * e + 1 := by
  rw [u64w (x := e * 2) (by omega) (by omega), BitVec.or_comm]
  have := or_shift 1 (by decide) (x := 1) (y := e) (by decide) (by decide) h0 (by omega)
  rw [show e * 2 ^ 1 = e * 2 by omega] at this
  rw [this, u64w (by omega) (by omega)]; omega
theorem odd_raw {w : Int} (h0 : 0 ≤ w) (h1 : w < 18446744073709551616) : (IntKind.u64.wrap ↑(BitVec.ofInt 64 w &&& BitVec.ofInt 64 1).toNat == 1) = decide (w % 2 = 1) := by
  rw [and_1 h0 h1, u64w (by omega) (by omega)]
  by_cases h : w % 2 = 1
  · simp [h]
  · have : (w % 2 == 1) = false := by simpa using h
    rw [this]; simp [h]
theorem hd_inv {f : Nat → Nat → AV} {e0 : Int} (h0 : 0 ≤ e0) : ∀ i, HInv (hdN f e0 i) (1099511627776 + i)
  | 0 => by
    have hm : 0 ≤ e0.tmod 1099511627776 ∧ e0.tmod 1099511627776 < 1099511627776 := by
      rw [Int.tmod_eq_emod_of_nonneg h0]; omega
    have hE : hdE (hdN f e0 0).S = e0.tmod 1099511627776 := by
      show mget (memPut (memPut _ 1 0 0 _) 5 0 0 2) (key 1 0 0) = _
      rw [mget_put, if_neg (by omega), mget_put, if_pos ⟨may1, rfl, rfl, rfl⟩]
    have hW : ∀ k, hdW (hdN f e0 0).S k = 0 := fun k => by
      show mget (memPut (memPut _ 1 0 0 _) 5 0 0 2) (key 8 k 3) = _
      rw [mget_put, if_neg (by omega), mget_put, if_neg (by omega)]; rfl
    refine ⟨by rw [hE]; exact hm.1, by rw [hE]; simp; omega, ?_, fun k _ _ => hW k, fun k _ h => (by cases h), fun k _ => Nat.zero_le 4, fun k _ h => (by cases h), fun k _ h => absurd h (by show ¬ 1 ≤ 0; omega), fun k _ h => (by cases h), fun k _ h => absurd h (by show ¬ 3 ≤ 0; omega)⟩
    show mget (memPut (memPut _ 1 0 0 _) 5 0 0 2) (key 5 0 0) = _
    rw [mget_put, if_pos ⟨by decide, rfl, rfl, rfl⟩]
  | i + 1 => by
    have h := hd_inv h0 (f := f) i
    have hj : hdJ (f (0 + i)) < 8 := by
      unfold hdJ
      have := Int.tmod_lt_of_pos (avInt (f (0 + i) 0)) (b := 8) (by decide)
      omega
    have := (hd_step h hj (hdA (f (0 + i)))).1
    rw [show (1099511627776 : Int) + (i : Int) + 1 = 1099511627776 + ((i + 1 : Nat) : Int) by omega] at this
    exact this
theorem HX_ext {S : MS} {O O' : Nat → HO} (h : ∀ k, O k = O' k) : (⟨S, O⟩ : HX) = ⟨S, O'⟩ := by rw [funext h]
set_option maxHeartbeats 1000000 in
theorem hd_piece {m : Nat} {f : Nat → Nat → AV} {e0 : Int} {ii : Nat} {x : HX} {B : Int} (hI : HInv x B) (hB : B < 1099511629000) (hin : ii < m) (hr : 0 ≤ avInt (f ii 0)) {z : FSt}
    (hrest : FEx Try.prog hdF (hdU m f e0) hdY (hdT1 m f ii (hdDo x (hdJ (f (0 + ii))) (hdA (f (0 + ii))))) .norm z) : FEx Try.prog hdF (hdU m f e0) (seqs (headC 3 hdX_) hdY) (hdT m f ii x) .norm z := by
  have hr0 : 0 ≤ (avInt (f (0 + ii) 0)).tmod 8 := by rw [Nat.zero_add]; exact Int.tmod_nonneg _ hr
  have hj8 : hdJ (f (0 + ii)) < 8 := by
    unfold hdJ
    have := Int.tmod_lt_of_pos (avInt (f (0 + ii) 0)) (b := 8) (by decide)
    omega
  have hs := hd_step hI hj8 (hdA (f (0 + ii)))
  obtain ⟨-, hs1, hs2⟩ := hs
  have he0 := hI.e0
  have heB := hI.eB
  have hT1 : decide (hdE (hdDo x (hdJ (f (0 + ii))) (hdA (f (0 + ii)))).S > IntKind.u64.wrap (hdE x.S + 1)) = false := decide_eq_false (by rw [u64w (by omega) (by omega)]; omega)
  have hT2 : decide (hdE (hdDo x (hdJ (f (0 + ii))) (hdA (f (0 + ii)))).S < hdE x.S) = false := decide_eq_false (by omega)
  have hjt : ((avInt (f (0 + ii) 0)).tmod 8).toNat = hdJ (f (0 + ii)) := rfl
  have hbt : ((IntKind.u8.wrap ((avInt (f (0 + ii) 0)).tdiv 8)).tmod 2 == 1) = hdA (f (0 + ii)) := rfl
  generalize hdJ (f (0 + ii)) = j at *
  generalize hdA (f (0 + ii)) = adv at *
  have ht := hI.t j hj8
  have hte := hI.te j hj8
  have ht1 := hI.t1 j hj8
  have ht3 := hI.t3 j hj8
  have hWr : ∀ k : Nat, k < 8 → 0 ≤ hdW x.S k ∧ hdW x.S k < 18446744073709551616 := by
    intro k hk
    cases hi : (x.O k).i with
    | false => rw [hI.out k hk hi]; omega
    | true => obtain ⟨q, h1, h2, h3, h4, h5⟩ := hI.ins k hk hi; omega
  generalize ho : x.O j = o at ht hte ht1 ht3
  obtain ⟨t, i, a, e, p⟩ := o
  have kk : ∀ (S : MS) (o2 : HO), hdDo x j adv = ⟨mLoad S 1 0 0, fun k => if k = j then o2 else x.O k⟩ → (decide (hdE (mLoad S 1 0 0) > IntKind.u64.wrap (hdE x.S + 1)) = false ∧ decide (hdE (mLoad S 1 0 0) < hdE x.S) = false) ∧ FEx Try.prog hdF (hdU m f e0) hdY (hdT1 m f ii ⟨mLoad S 1 0 0, fun k => if k = j then o2 else x.O k⟩) .norm z := by
    intro S o2 h
    rw [h] at hT1 hT2 hrest
    exact ⟨⟨hT1, hT2⟩, hrest⟩
  have dd : ∀ (S : MS) (o2 : HO), hdS x.S j adv (x.O j) = S → hdO x.S adv (x.O j) = o2 → hdDo x j adv = ⟨mLoad S 1 0 0, fun k => if k = j then o2 else x.O k⟩ := by
    intro S o2 h1 h2
    unfold hdDo
    rw [h1, h2]
  have hrr : (avInt (f (0 + ii) 0)).tmod 8 = (j : Int) := by rw [← hjt]; exact (Int.toNat_of_nonneg hr0).symm
  match t, ht with
  | 0, _ =>
    cases adv with
    | true =>
      obtain ⟨⟨k1, k2⟩, k3⟩ := kk _ _ (dd (mLoad x.S 1 0 0) ⟨2, i, a, hdE x.S, 0⟩ (by rw [ho]; rfl) (by rw [ho]; rfl))
      exact hA_ex hin hj8 hr0 hjt ho hbt k1 k2 k3
    | false =>
      cases i with
      | true =>
        have e1 : IntKind.i64.wrap ((avInt (f (0 + ii) 0)).tmod 8) = (j : Int) := by rw [hrr, wrap_nat64 _ (by omega) (by omega)]
        obtain ⟨⟨k1, k2⟩, k3⟩ := kk _ _ (dd (mStore x.S 8 (IntKind.i64.wrap ((avInt (f (0 + ii) 0)).tmod 8)) 3 0) ⟨0, false, a, 0, 0⟩ (by rw [ho, e1]; rfl) (by rw [ho]; rfl))
        exact hB_ex hin hj8 hr0 hjt ho hbt rfl k1 k2 k3
      | false =>
        obtain ⟨⟨k1, k2⟩, k3⟩ := kk _ _ (dd (mLoad x.S 1 0 0) ⟨1, false, a, hdE x.S, 0⟩ (by rw [ho]; rfl) (by rw [ho]; rfl))
        exact hC_ex hin hj8 hr0 hjt ho hbt rfl k1 k2 k3
  | 1, _ =>
    have hee : 0 ≤ e ∧ e ≤ hdE x.S := hte (Nat.le_refl 1)
    have hv := in_raw (e := e) hee.1 (by omega)
    obtain ⟨⟨k1, k2⟩, k3⟩ := kk _ _ (dd (mLoad (mStore x.S 8 (Int.ofNat j) 3 (IntKind.u64.wrap ↑(BitVec.ofInt 64 (IntKind.u64.wrap (e * 2)) ||| BitVec.ofInt 64 1).toNat)) 1 0 0) ⟨0, true, hdE x.S, 0, 0⟩ (by rw [ho, hv]; rfl) (by rw [ho]; rfl))
    exact hD_ex hin hj8 hr0 hjt ho (hdE_store x.S (j : Int) _) k1 k2 k3
  | 2, _ =>
    obtain ⟨⟨k1, k2⟩, k3⟩ := kk _ _ (dd (mLoad x.S 5 0 0) ⟨3, i, a, e, 0⟩ (by rw [ho]; rfl) (by rw [ho]; rfl))
    exact hE_ex hin hj8 hr0 hjt ho (by rw [hI.bl]; rfl) k1 k2 k3
  | 3, _ =>
    have hee : 0 ≤ e ∧ e ≤ hdE x.S := hte (by show 1 ≤ 3; omega)
    have hpp : 0 ≤ p ∧ p < 8 := ht3 rfl
    have hv := in_raw (e := e) hee.1 (by omega)
    have hw : 0 ≤ mget x.S.M (key 8 p 3) ∧ mget x.S.M (key 8 p 3) < 18446744073709551616 := by
      have := hWr p.toNat (by omega)
      unfold hdW at this
      rwa [show ((p.toNat : Nat) : Int) = p by omega] at this
    have ho1 := odd_raw hw.1 hw.2
    have hsS : hdS x.S j adv (x.O j) = mLoad x.S 8 p 3 := by rw [ho]; rfl
    have hp1 : IntKind.i64.wrap (p + 1) = p + 1 := wrap_nat64 _ (by omega) (by omega)
    by_cases hodd : mget x.S.M (key 8 p 3) % 2 = 1
    · by_cases hne : mget x.S.M (key 8 p 3) = 2 * e + 1
      · have hx2 : (mget x.S.M (key 8 p 3) != IntKind.u64.wrap ↑(BitVec.ofInt 64 (IntKind.u64.wrap (e * 2)) ||| BitVec.ofInt 64 1).toNat) = false := by rw [hv, hne]; simp
        have hn : ¬ (hdW x.S p % 2 = 1 ∧ hdW x.S p ≠ 2 * e + 1) := fun q => q.2 hne
        by_cases h8 : p + 1 < 8
        · obtain ⟨⟨k1, k2⟩, k3⟩ := kk _ _ (dd _ ⟨3, i, a, e, p + 1⟩ hsS (by rw [ho]; unfold hdO; simp only []; rw [if_neg hn, if_pos h8]))
          exact hH_ex hin hj8 hr0 hjt ho (by rw [ho1]; exact decide_eq_true hodd) hx2 hp1 h8 k1 k2 k3
        · obtain ⟨⟨k1, k2⟩, k3⟩ := kk _ _ (dd _ ⟨4, i, a, e, 8⟩ hsS (by rw [ho]; unfold hdO; simp only []; rw [if_neg hn, if_neg h8]))
          exact hJ_ex hin hj8 hr0 hjt ho (by rw [ho1]; exact decide_eq_true hodd) hx2 (by rw [hp1]; omega) k1 k2 k3
      · have hx2 : (mget x.S.M (key 8 p 3) != IntKind.u64.wrap ↑(BitVec.ofInt 64 (IntKind.u64.wrap (e * 2)) ||| BitVec.ofInt 64 1).toNat) = true := by rw [hv]; simpa using hne
        obtain ⟨⟨k1, k2⟩, k3⟩ := kk _ _ (dd _ ⟨0, i, a, 0, 0⟩ hsS (by rw [ho]; unfold hdO; simp only []; rw [if_pos ⟨hodd, hne⟩]))
        exact hF_ex hin hj8 hr0 hjt ho (by rw [ho1]; exact decide_eq_true hodd) hx2 k1 k2 k3
    · have hn : ¬ (hdW x.S p % 2 = 1 ∧ hdW x.S p ≠ 2 * e + 1) := fun q => hodd q.1
      by_cases h8 : p + 1 < 8
      · obtain ⟨⟨k1, k2⟩, k3⟩ := kk _ _ (dd _ ⟨3, i, a, e, p + 1⟩ hsS (by rw [ho]; unfold hdO; simp only []; rw [if_neg hn, if_pos h8]))
        exact hG_ex hin hj8 hr0 hjt ho (by rw [ho1]; exact decide_eq_false hodd) hp1 h8 k1 k2 k3
      · obtain ⟨⟨k1, k2⟩, k3⟩ := kk _ _ (dd _ ⟨4, i, a, e, 8⟩ hsS (by rw [ho]; unfold hdO; simp only []; rw [if_neg hn, if_neg h8]))
        exact hI_ex hin hj8 hr0 hjt ho (by rw [ho1]; exact decide_eq_false hodd) (by rw [hp1]; omega) k1 k2 k3
  | 4, _ =>
    have hee : 0 ≤ e ∧ e ≤ hdE x.S := hte (by show 1 ≤ 4; omega)
    have he1 : IntKind.u64.wrap (e + 1) = e + 1 := u64w (by omega) (by omega)
    obtain ⟨⟨k1, k2⟩, k3⟩ := kk _ _ (dd (mCas x.S 1 0 0 e (IntKind.u64.wrap (e + 1))) ⟨0, i, a, 0, 0⟩ (by rw [ho, he1]; rfl) (by rw [ho]; rfl))
    exact hK_ex hin hj8 hr0 hjt ho k1 k2 k3
  | t + 5, ht => exact absurd ht (by show ¬ t + 5 ≤ 4; omega)
theorem hd_lp (m : Nat) (f : Nat → Nat → AV) (e0 : Int) (hm : m ≤ 800) (h0 : 0 ≤ e0) (hr : ∀ i, i < m → 0 ≤ avInt (f i 0)) : hdLP m f e0 := by
  have hfin : FOut Try.prog hdF (hdU m f e0) (.loop hdL) (hdT m f 0 (hdN f e0 0)) (.exit 0) (hdX m f (hdN f e0 m).S) := by
    refine fout_loop (fun i => hdT m f i (hdN f e0 i)) (fun i => m - i) (fun i => i ≤ m) (fun ii hi => ?_) 0 (Nat.zero_le _)
    have hi : ii ≤ m := hi
    have hI := hd_inv (f := f) h0 ii
    have hI' := hd_inv (f := f) h0 (ii + 1)
    by_cases hin : ii < m
    · left
      refine ⟨ii + 1, by show ii + 1 ≤ m; omega, by show m - (ii + 1) < m - ii; omega, ?_⟩
      rw [hd_body]
      have hiF : decide (Int.ofNat ii < Int.ofNat m) = true := decide_eq_true (by simp; omega)
      have hwi : IntKind.i64.wrap (Int.ofNat ii + 1) = Int.ofNat (ii + 1) := wrap_nat64 _ (by simp; omega) (by simp; omega)
      refine fex_seq (y := hdT m f ii (hdN f e0 ii)) ?_ (fex_seq (y := hdT2 m f ii (hdN f e0 (ii + 1))) (fex_blockN (hd_piece hI (by omega) hin (hr ii hin) ?_)) ?_)
      · have hV := hd_V (hdN f e0 ii)
        generalize hdN f e0 ii = x at *
        have y := x
        refine fex_loc Ehd_ok hdFam hdSOk 8 false false (mb := hdMb 8 (x.O 8)) (mb' := hdMb 8 (x.O 8)) (hp_1 m f e0 ii x y) (cj ⟨rfl, rfl, rfl, rfl, rfl, rfl, rfl, rfl, rfl, rfl, rfl, Nat.le_refl _, hV _ (Nat.le_refl _), rfl, rfl, rfl, rfl, rfl, rfl, rfl, rfl, (fun _ => rfl), rfl, Nat.le_refl _, .inl ⟨rfl, rfl⟩, hiF, trivial⟩) (hdG _ _ _ _) (hdG _ _ _ _) (fun h => by cases h) rfl rfl (.inr ⟨rfl, Nat.le_refl _⟩) (fun k hk _ => ⟨hk, rfl⟩)
      · have hlp : hkLP m f (hdN f e0 (ii + 1)).S (lrow fam0 1 (hdT1 m f ii (hdN f e0 (ii + 1))).M 8) (hdE (hdN f e0 (ii + 1)).S) ii := by
          refine hk_lp m f _ _ _ ii (fun k hk hb => ?_) ⟨hI'.e0, by have := hI'.eB; simp at this; omega⟩ (hd_V _ _ (Nat.le_refl _))
          have e0' : lrow fam0 1 (hdT1 m f ii (hdN f e0 (ii + 1))).M 8 (0 + k) 0 = .symb ((hdN f e0 (ii + 1)).O k).i := by
            rw [Nat.zero_add, lrow_ne (by omega)]; exact hd_c0 ..
          have e1' : lrow fam0 1 (hdT1 m f ii (hdN f e0 (ii + 1))).M 8 (0 + k) 1 = .sym .u64 ((hdN f e0 (ii + 1)).O k).a := by
            rw [Nat.zero_add, lrow_ne (by omega)]; exact hd_c1 ..
          rw [e0'] at hb
          rw [e1']
          obtain ⟨q, h1, h2, h3, h4, h5⟩ := hI'.ins k hk hb
          exact ⟨by show 0 ≤ ((hdN f e0 (ii + 1)).O k).a; omega, h4, h5⟩
        have hV := hd_V (hdN f e0 (ii + 1))
        show FEx Try.prog hdF (hdU m f e0) hdY (hdT1 m f ii (hdN f e0 (ii + 1))) .norm (hdT2 m f ii (hdN f e0 (ii + 1)))
        generalize hdN f e0 (ii + 1) = y at *
        have x := y
        refine fex_loc Ehd_ok hdFam hdSOk 8 false false (mb := hdMb 8 (y.O 8)) (mb' := hdMb 8 (y.O 8)) (hy_1 m f e0 ii x y) (cj ⟨rfl, rfl, rfl, rfl, rfl, rfl, rfl, rfl, rfl, rfl, rfl, Nat.le_refl _, hV _ (Nat.le_refl _), rfl, rfl, rfl, rfl, rfl, rfl, rfl, rfl, (fun _ => rfl), rfl, Nat.le_refl _, .inl ⟨rfl, rfl⟩, hlp, trivial⟩) (hdG1 _ _ _ _) (hdG2 _ _ _ _) (fun h => by cases h) rfl rfl (.inr ⟨rfl, Nat.le_refl _⟩) (fun k hk _ => ⟨hk, rfl⟩)
      · have hV := hd_V (hdN f e0 (ii + 1))
        generalize hdN f e0 (ii + 1) = y at *
        have x := y
        refine fex_loc Ehd_ok hdFam hdSOk 8 false false (mb := hdMb 8 (y.O 8)) (mb' := hdMb 8 (y.O 8)) (hz_1 m f e0 ii x y) (cj ⟨rfl, rfl, rfl, rfl, rfl, rfl, rfl, rfl, rfl, hwi, rfl, Nat.le_refl _, hV _ (Nat.le_refl _), rfl, rfl, rfl, rfl, rfl, rfl, rfl, rfl, (fun _ => rfl), rfl, Nat.le_refl _, .inl ⟨rfl, rfl⟩, trivial⟩) (hdG2 _ _ _ _) (hdG _ _ _ _) (fun h => by cases h) rfl rfl (.inr ⟨rfl, Nat.le_refl _⟩) (fun k hk _ => ⟨hk, rfl⟩)
    · right
      obtain rfl : m = ii := by omega
      refine ⟨by simp, ?_⟩
      have hiF : decide (Int.ofNat m < Int.ofNat m) = false := decide_eq_false (by simp)
      have hV := hd_V (hdN f e0 m)
      generalize hdN f e0 m = x at *
      refine fout_loc Ehd_ok hdFam hdSOk 8 false (mb := hdMb 8 (x.O 8)) (hq_1 m f e0 m x x) (cj ⟨rfl, rfl, rfl, rfl, rfl, rfl, rfl, rfl, rfl, rfl, rfl, (fun _ => rfl), rfl, Nat.le_refl _, .inl ⟨rfl, rfl⟩, hiF, trivial⟩) (hdG _ _ _ _) (fun h => by cases h) rfl
  have hrow0 : ∀ i, i < 8 → rowV (CM.mk 5 fam0 [(5, Src.nm 4)]) hdSh 0 (listRow 5 (repeatL [.bool false, .int .u64 0, .nilp, .nilp, .nilp] 8) i) (lrow fam0 1 (hdT m f 0 (hdN f e0 0)).M 8 i) := by
    intro i hi
    match i, hi with
    | 0, _ => exact ⟨rfl, rfl, valV_nilp, valV_nilp, valV_nilp, trivial⟩
    | 1, _ => exact ⟨rfl, rfl, valV_nilp, valV_nilp, valV_nilp, trivial⟩
    | 2, _ => exact ⟨rfl, rfl, valV_nilp, valV_nilp, valV_nilp, trivial⟩
    | 3, _ => exact ⟨rfl, rfl, valV_nilp, valV_nilp, valV_nilp, trivial⟩
    | 4, _ => exact ⟨rfl, rfl, valV_nilp, valV_nilp, valV_nilp, trivial⟩
    | 5, _ => exact ⟨rfl, rfl, valV_nilp, valV_nilp, valV_nilp, trivial⟩
    | 6, _ => exact ⟨rfl, rfl, valV_nilp, valV_nilp, valV_nilp, trivial⟩
    | 7, _ => exact ⟨rfl, rfl, valV_nilp, valV_nilp, valV_nilp, trivial⟩
    | i + 8, h => exact absurd h (by omega)
  refine fout_code hdFam hdSOk (hdG _ _ _ _) (fun k _ => rfl) (hi_1 ..) (cj ⟨rfl, rfl, rfl, rfl, rfl, rfl, rfl, rfl, rfl, rfl, rfl, hrow0, rfl, rfl, rfl, rfl, rfl, rfl, rfl, rfl, (fun _ => rfl), rfl, Nat.le_refl _, .inl ⟨rfl, rfl⟩, trivial⟩) hfin

end Go.Proofs.Ytmlfmmnnbdlabaa
