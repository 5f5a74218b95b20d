/-
  Words of the document: the loop.
-/
import Derived.Test.YtlpcdjhojfopjaaGreatDoorZRoDef
set_option linter.unusedSimpArgs false
set_option linter.unusedVariables false
namespace Go.Proofs.YtlpcdjhojfopjaaGreatDoor
open Go.Ev
theorem rwoa_1 (n l : Nat) (g : Nat → Nat → AV) (st : Int) (L : LS) (ii : Nat) : roundB ERw 2000 rwoL ((rwoU n l g st L).hp) [(3, Src.nm 3)] (rwoT n l g st L ii) [Hint.b true, Hint.b true] (rwoT n l g st L (ii + 1)) =
 some (Ex.norm, [(0 : Nat) = 0,
 (0 : Nat) = 0,
 (0 : Nat) = 0,
 (rwl (dOf n g) ii).length = (rwl (dOf n g) (ii + 1)).length,
 (none : Option Nat) = none,
 IntKind.i64.wrap (Int.ofNat ii + 1) = Int.ofNat (ii + 1),
 (0 : Nat) = 0,
 n = n,
 (none : Option Nat) = none,
 st = st,
 L.c = L.c,
 L.k = L.k,
 L.a = L.a,
 L.f = L.f,
 L.w = L.w,
 L.i = L.i,
 L.d = L.d,
 false = false,
 l ≤ l,
 g = g ∧ plainSh wSh = true ∨ ∀ (i : Nat), i < l → rowOb wSh 0 (g i) (g i),
 false = false,
 (rwl (dOf n g) (ii + 1)).length ≤ (rwl (dOf n g) ii).length,
 wdF (wdAt (rwl (dOf n g) (ii + 1))) = wdF (wdAt (rwl (dOf n g) ii)) ∧ plainSh wSh = true ∨ ∀ (i : Nat), i < (rwl (dOf n g) (ii + 1)).length → rowOb wSh 0 (wdF (wdAt (rwl (dOf n g) ii)) i) (wdF (wdAt (rwl (dOf n g) (ii + 1))) i),
 (avInt (g (0 + ii) 3) == 0) = true,
 (0 + ii).blt l = true,
 (ii.blt n && decide (0 ≤ Int.ofNat ii)) = true,
 decide (Int.ofNat ii < Int.ofNat n) = true]) := by kernel_rfl
theorem rwob_1 (n l : Nat) (g : Nat → Nat → AV) (st : Int) (L : LS) (ii : Nat) : roundB ERw 2000 rwoL ((rwoU n l g st L).hp) [(3, Src.nm 3273390607896141870013189696827599152216642046043064789483291368096133796404674554883270092325904157150886684127560071009217256545885393053328527589364)] (rwoT n l g st L ii) [Hint.b true, Hint.b false, Hint.lp [0, 3, 4, 5] (Ex.exit 2) (rwiX n l g st L ii (posL (wdOf (g ii)).key (rwl (dOf n g) ii))).tmps (rwiX n l g st L ii 0).hp.heap 4 [], Hint.node [(3, [Hint.a AV.nils])]] (rwoT n l g st L (ii + 1)) =
 some (Ex.norm, [(0 : Nat) = 0,
 (0 : Nat) = 0,
 (0 : Nat) = 0,
 posL (wdOf (g ii)).key (rwl (dOf n g) ii) - 0 + 1 + ((rwl (dOf n g) ii).length - posL (wdOf (g ii)).key (rwl (dOf n g) ii)) = (rwl (dOf n g) (ii + 1)).length,
 (none : Option Nat) = none,
 IntKind.i64.wrap (Int.ofNat ii + 1) = Int.ofNat (ii + 1),
 (0 : Nat) = 0,
 n = n,
 (none : Option Nat) = none,
 st = st,
 L.c = L.c,
 L.k = L.k,
 L.a = L.a,
 L.f = L.f,
 L.w = L.w,
 L.i = L.i,
 L.d = L.d,
 false = false,
 l ≤ l,
 g = g ∧ plainSh wSh = true ∨ ∀ (i : Nat), i < l → rowOb wSh 0 (g i) (g i),
 false = false,
 (rwl (dOf n g) (ii + 1)).length ≤ posL (wdOf (g ii)).key (rwl (dOf n g) ii) - 0 + 1 + ((rwl (dOf n g) ii).length - posL (wdOf (g ii)).key (rwl (dOf n g) ii)),
 (wdF (wdAt (rwl (dOf n g) (ii + 1))) = fun i j => if i < posL (wdOf (g ii)).key (rwl (dOf n g) ii) - 0 + 1 then if 0 + i < posL (wdOf (g ii)).key (rwl (dOf n g) ii) - 0 then wdF (wdAt (rwl (dOf n g) ii)) (0 + (0 + (0 + i))) j else rowsOf 4 [AV.sym IntKind.u8 (avInt (g (0 + ii) 0)), AV.sym IntKind.i64 (avInt (g (0 + ii) 1)), AV.sym IntKind.i64 (avInt (g (0 + ii) 2)), AV.sym IntKind.u64 (avInt (g (0 + ii) 3))] (0 + i - (posL (wdOf (g ii)).key (rwl (dOf n g) ii) - 0)) j else wdF (wdAt (rwl (dOf n g) ii)) (0 + posL (wdOf (g ii)).key (rwl (dOf n g) ii) + (i - (posL (wdOf (g ii)).key (rwl (dOf n g) ii) - 0 + 1))) j) ∧ plainSh wSh = true ∨ ∀ (i : Nat), i < (rwl (dOf n g) (ii + 1)).length → rowOb wSh 0 (fun j => if i < posL (wdOf (g ii)).key (rwl (dOf n g) ii) - 0 + 1 then if 0 + i < posL (wdOf (g ii)).key (rwl (dOf n g) ii) - 0 then wdF (wdAt (rwl (dOf n g) ii)) (0 + (0 + (0 + i))) j else rowsOf 4 [AV.sym IntKind.u8 (avInt (g (0 + ii) 0)), AV.sym IntKind.i64 (avInt (g (0 + ii) 1)), AV.sym IntKind.i64 (avInt (g (0 + ii) 2)), AV.sym IntKind.u64 (avInt (g (0 + ii) 3))] (0 + i - (posL (wdOf (g ii)).key (rwl (dOf n g) ii) - 0)) j else wdF (wdAt (rwl (dOf n g) ii)) (0 + posL (wdOf (g ii)).key (rwl (dOf n g) ii) + (i - (posL (wdOf (g ii)).key (rwl (dOf n g) ii) - 0 + 1))) j) (wdF (wdAt (rwl (dOf n g) (ii + 1))) i),
 ((posL (wdOf (g ii)).key (rwl (dOf n g) ii) - 0 + 1 + ((rwl (dOf n g) ii).length - posL (wdOf (g ii)).key (rwl (dOf n g) ii))) * 32).ble 70368744177664 = true,
 (0 + posL (wdOf (g ii)).key (rwl (dOf n g) ii) + ((rwl (dOf n g) ii).length - posL (wdOf (g ii)).key (rwl (dOf n g) ii))).ble (rwl (dOf n g) ii).length = true,
 (0 + (posL (wdOf (g ii)).key (rwl (dOf n g) ii) - 0 + 1)).ble (posL (wdOf (g ii)).key (rwl (dOf n g) ii) - 0 + 1) = true,
 ((posL (wdOf (g ii)).key (rwl (dOf n g) ii)).blt (capOr none (rwl (dOf n g) ii).length) || (posL (wdOf (g ii)).key (rwl (dOf n g) ii)).beq 0) = true,
 ((posL (wdOf (g ii)).key (rwl (dOf n g) ii)).ble (rwl (dOf n g) ii).length && decide (0 ≤ Int.ofNat (posL (wdOf (g ii)).key (rwl (dOf n g) ii)))) = true,
 ((posL (wdOf (g ii)).key (rwl (dOf n g) ii) - 0 + 1) * 32).ble 70368744177664 = true,
 (0 + (posL (wdOf (g ii)).key (rwl (dOf n g) ii) - 0)).ble (posL (wdOf (g ii)).key (rwl (dOf n g) ii) - 0) = true,
 (0 + ii).blt l = true,
 (ii.blt n && decide (0 ≤ Int.ofNat ii)) = true,
 ((posL (wdOf (g ii)).key (rwl (dOf n g) ii) - 0) * 32).ble 70368744177664 = true,
 (0 + (posL (wdOf (g ii)).key (rwl (dOf n g) ii) - 0)).ble (rwl (dOf n g) ii).length = true,
 (Nat.blt 0 (capOr none (rwl (dOf n g) ii).length) || Nat.beq 0 0) = true,
 ((posL (wdOf (g ii)).key (rwl (dOf n g) ii)).ble (capOr none (rwl (dOf n g) ii).length) && decide (0 ≤ Int.ofNat (posL (wdOf (g ii)).key (rwl (dOf n g) ii)))) = true,
 rwiLP n l g st L ii,
 (avInt (g (0 + ii) 3) == 0) = false,
 (0 + ii).blt l = true,
 (ii.blt n && decide (0 ≤ Int.ofNat ii)) = true,
 decide (Int.ofNat ii < Int.ofNat n) = true]) := by kernel_rfl
theorem rwoc_1 (n l : Nat) (g : Nat → Nat → AV) (st : Int) (L : LS) (ii : Nat) : roundB ERw 2000 rwoL ((rwoU n l g st L).hp) [(3, Src.nm 2455042955922106402509892272620699364162481534532298592112468526072100347303505916162452569244428117863165013095670053256912942409414044789996395692024)] (rwoT n l g st L ii) [Hint.b true, Hint.b false, Hint.lp [0, 3, 4, 5] (Ex.exit 2) (rwiX n l g st L ii (posL (wdOf (g ii)).key (rwl (dOf n g) ii))).tmps (rwiX n l g st L ii 0).hp.heap 4 [], Hint.node [(3, [Hint.a AV.nils]), (15, [Hint.a AV.nils]), (16, [Hint.a AV.nilm])]] (rwoT n l g st L (ii + 1)) =
 some (Ex.norm, [(0 : Nat) = 0,
 (0 : Nat) = 0,
 (0 : Nat) = 0,
 posL (wdOf (g ii)).key (rwl (dOf n g) ii) - 0 + 1 = (rwl (dOf n g) (ii + 1)).length,
 (none : Option Nat) = none,
 IntKind.i64.wrap (Int.ofNat ii + 1) = Int.ofNat (ii + 1),
 (0 : Nat) = 0,
 n = n,
 (none : Option Nat) = none,
 st = st,
 L.c = L.c,
 L.k = L.k,
 L.a = L.a,
 L.f = L.f,
 L.w = L.w,
 L.i = L.i,
 L.d = L.d,
 false = false,
 l ≤ l,
 g = g ∧ plainSh wSh = true ∨ ∀ (i : Nat), i < l → rowOb wSh 0 (g i) (g i),
 false = false,
 (rwl (dOf n g) (ii + 1)).length ≤ posL (wdOf (g ii)).key (rwl (dOf n g) ii) - 0 + 1,
 (wdF (wdAt (rwl (dOf n g) (ii + 1))) = fun i j => if i < posL (wdOf (g ii)).key (rwl (dOf n g) ii) - 0 then wdF (wdAt (rwl (dOf n g) ii)) (0 + (0 + i)) j else rowsOf 4 [AV.sym IntKind.u8 (avInt (g (0 + ii) 0)), AV.sym IntKind.i64 (avInt (g (0 + ii) 1)), AV.sym IntKind.i64 (avInt (g (0 + ii) 2)), AV.sym IntKind.u64 (avInt (g (0 + ii) 3))] (i - (posL (wdOf (g ii)).key (rwl (dOf n g) ii) - 0)) j) ∧ plainSh wSh = true ∨ ∀ (i : Nat), i < (rwl (dOf n g) (ii + 1)).length → rowOb wSh 0 (fun j => if i < posL (wdOf (g ii)).key (rwl (dOf n g) ii) - 0 then wdF (wdAt (rwl (dOf n g) ii)) (0 + (0 + i)) j else rowsOf 4 [AV.sym IntKind.u8 (avInt (g (0 + ii) 0)), AV.sym IntKind.i64 (avInt (g (0 + ii) 1)), AV.sym IntKind.i64 (avInt (g (0 + ii) 2)), AV.sym IntKind.u64 (avInt (g (0 + ii) 3))] (i - (posL (wdOf (g ii)).key (rwl (dOf n g) ii) - 0)) j) (wdF (wdAt (rwl (dOf n g) (ii + 1))) i),
 Nat.beq 0 0 = true,
 ((posL (wdOf (g ii)).key (rwl (dOf n g) ii)).beq (rwl (dOf n g) ii).length && decide (0 ≤ Int.ofNat (posL (wdOf (g ii)).key (rwl (dOf n g) ii)))) = true,
 ((posL (wdOf (g ii)).key (rwl (dOf n g) ii) - 0 + 1) * 32).ble 70368744177664 = true,
 (0 + (posL (wdOf (g ii)).key (rwl (dOf n g) ii) - 0)).ble (posL (wdOf (g ii)).key (rwl (dOf n g) ii) - 0) = true,
 (0 + ii).blt l = true,
 (ii.blt n && decide (0 ≤ Int.ofNat ii)) = true,
 ((posL (wdOf (g ii)).key (rwl (dOf n g) ii) - 0) * 32).ble 70368744177664 = true,
 (0 + (posL (wdOf (g ii)).key (rwl (dOf n g) ii) - 0)).ble (rwl (dOf n g) ii).length = true,
 (Nat.blt 0 (capOr none (rwl (dOf n g) ii).length) || Nat.beq 0 0) = true,
 ((posL (wdOf (g ii)).key (rwl (dOf n g) ii)).ble (capOr none (rwl (dOf n g) ii).length) && decide (0 ≤ Int.ofNat (posL (wdOf (g ii)).key (rwl (dOf n g) ii)))) = true,
 rwiLP n l g st L ii,
 (avInt (g (0 + ii) 3) == 0) = false,
 (0 + ii).blt l = true,
 (ii.blt n && decide (0 ≤ Int.ofNat ii)) = true,
 decide (Int.ofNat ii < Int.ofNat n) = true]) := by kernel_rfl
theorem rwod_1 (n l : Nat) (g : Nat → Nat → AV) (st : Int) (L : LS) (ii : Nat) : roundB ERw 2000 rwoL ((rwoU n l g st L).hp) [(3, Src.nm 3)] (rwoT n l g st L ii) [Hint.b false] (rwoX n l g st L ii) =
 some (Ex.exit 0, [(0 : Nat) = 0,
 (0 : Nat) = 0,
 (0 : Nat) = 0,
 (rwl (dOf n g) ii).length = (rwl (dOf n g) ii).length,
 (none : Option Nat) = none,
 (0 : Nat) = 0,
 n = n,
 (none : Option Nat) = none,
 st = st,
 L.c = L.c,
 L.k = L.k,
 L.a = L.a,
 L.f = L.f,
 L.w = L.w,
 L.i = L.i,
 L.d = L.d,
 false = false,
 l ≤ l,
 g = g ∧ plainSh wSh = true ∨ ∀ (i : Nat), i < l → rowOb wSh 0 (g i) (g i),
 false = false,
 (rwl (dOf n g) ii).length ≤ (rwl (dOf n g) ii).length,
 wdF (wdAt (rwl (dOf n g) ii)) = wdF (wdAt (rwl (dOf n g) ii)) ∧ plainSh wSh = true ∨ ∀ (i : Nat), i < (rwl (dOf n g) ii).length → rowOb wSh 0 (wdF (wdAt (rwl (dOf n g) ii)) i) (wdF (wdAt (rwl (dOf n g) ii)) i),
 decide (Int.ofNat ii < Int.ofNat n) = false]) := by kernel_rfl
theorem rwoi_1 (n l : Nat) (g : Nat → Nat → AV) (st : Int) (L : LS) : castSt ((rwoU n l g st L).hp) [(3, Src.nil 4)] (rwoU n l g st L) (rwoT n l g st L 0) =
 some ([(0 : Nat) = 0,
 (0 : Nat) = 0,
 (0 : Nat) = 0,
 (0 : Nat) = 0,
 (none : Option Nat) = none,
 (0 : Int) = 0,
 (0 : Nat) = 0,
 n = n,
 (none : Option Nat) = none,
 st = st,
 L.c = L.c,
 L.k = L.k,
 L.a = L.a,
 L.f = L.f,
 L.w = L.w,
 L.i = L.i,
 L.d = L.d,
 false = false,
 l ≤ l,
 g = g ∧ plainSh wSh = true ∨ ∀ (i : Nat), i < l → rowOb wSh 0 (g i) (g i),
 (0 : Nat) = 0]) := by kernel_rfl
theorem rwo_lp (n l : Nat) (g : Nat → Nat → AV) (st : Int) (L : LS) (hl : n ≤ l) (hm : n ≤ 100000) : rwoLP n l g st L := by
  refine loop_rule ERw_ok (I := Nat) (fun i => rwoT n l g st L i) (fun i => n - i) (fun i => i ≤ n) ?_ (fun ii hi => ?_)
  ·
    refine ⟨0, [(3, Src.nil 4)], _, Nat.zero_le _, rwoi_1 .., (cj ⟨rfl, rfl, rfl, rfl, rfl, rfl, rfl, rfl, rfl, rfl, rfl, rfl, rfl, rfl, rfl, rfl, rfl, rfl, Nat.le_refl _, .inl ⟨rfl, rfl⟩, rfl, trivial⟩)⟩
  have hi : ii ≤ n := hi
  have hlen := rwl_len (dOf n g) ii
  have hps := posL_le (wdOf (g ii)).key (rwl (dOf n g) ii)
  by_cases hin : ii < n
  · have hlp := rwi_lp n l g st L ii hl hm hin
    cases hz : (avInt (g (0 + ii) 3) == 0) with
    | true =>
      have hz0 : ((dOf n g).W ii).v = 0 := by rw [Nat.zero_add] at hz; exact eq_of_beq hz
      have hlen1 : (rwl (dOf n g) ii).length = (rwl (dOf n g) (ii + 1)).length := by rw [rwl_succ0 hz0]
      have rows0 : wdF (wdAt (rwl (dOf n g) (ii + 1))) = wdF (wdAt (rwl (dOf n g) ii)) ∧ plainSh wSh = true ∨ ∀ (i : Nat), i < (rwl (dOf n g) (ii + 1)).length → rowOb wSh 0 (wdF (wdAt (rwl (dOf n g) ii)) i) (wdF (wdAt (rwl (dOf n g) (ii + 1))) i) := by rw [rwl_succ0 hz0]; exact .inl ⟨rfl, rfl⟩
      refine round_norm (s0 := rwoU n l g st L) (T := fun i => rwoT n l g st L i) (i := ii) (ii + 1) (rwoa_1 ..) (cj ⟨rfl, rfl, rfl, hlen1, rfl, wrap_nat64 _ (by simp; omega) (by simp; omega), rfl, rfl, rfl, rfl, rfl, rfl, rfl, rfl, rfl, rfl, rfl, rfl, Nat.le_refl _, .inl ⟨rfl, rfl⟩, rfl, (by omega), rows0, hz, (by (simp; omega)), (by (simp; omega)), (by (simp; omega)), trivial⟩) (by show ii + 1 ≤ n; omega) (by show n - (ii + 1) < n - ii; omega)
    | false =>
      have hz0 : ((dOf n g).W ii).v ≠ 0 := by rw [Nat.zero_add] at hz; exact fun e => by rw [show avInt (g ii 3) = 0 from e] at hz; cases hz
      have hlen1 : (rwl (dOf n g) (ii + 1)).length = (rwl (dOf n g) ii).length + 1 := by rw [rwl_succ hz0, insL_len]
      by_cases hpl : (posL (wdOf (g ii)).key (rwl (dOf n g) ii)) < (rwl (dOf n g) ii).length
      · have rows1 := fun f h1 h2 h3 => rw_rows (f := f) hz0 rfl h1 h2 h3
        refine round_norm (s0 := rwoU n l g st L) (T := fun i => rwoT n l g st L i) (i := ii) (ii + 1) (rwob_1 ..) (cj ⟨rfl, rfl, rfl, (by omega), rfl, wrap_nat64 _ (by simp; omega) (by simp; omega), rfl, rfl, rfl, rfl, rfl, rfl, rfl, rfl, rfl, rfl, rfl, rfl, Nat.le_refl _, .inl ⟨rfl, rfl⟩, rfl, (by omega), .inr (rows1 _ (fun i q => by (have q1 : i < (posL (wdOf (g ii)).key (rwl (dOf n g) ii)) + 1 := by omega); simp only [Nat.sub_zero, Nat.zero_add, q, q1, if_true]; rfl) (by simp only [Nat.sub_zero, Nat.zero_add, Nat.lt_irrefl, Nat.lt_succ_self, if_true, if_false, Nat.sub_self, rowsOf_wj]; rfl) (fun i q qq => by (have q1 : ¬ i < (posL (wdOf (g ii)).key (rwl (dOf n g) ii)) + 1 := by omega); simp only [Nat.sub_zero, Nat.zero_add, q1, if_false]; rw [show (posL (wdOf (g ii)).key (rwl (dOf n g) ii)) + (i - ((posL (wdOf (g ii)).key (rwl (dOf n g) ii)) + 1)) = i - 1 by omega]; rfl)), (by (simp; omega)), (by (simp; omega)), (by (simp; done)), (by (simp [Nat.blt_eq, capOr]; omega)), (by (simp; omega)), (by (simp; omega)), (by (simp; done)), (by (simp; omega)), (by (simp; omega)), (by (simp; omega)), (by (simp; omega)), (by (simp; done)), (by (simp [Nat.blt_eq, capOr]; omega)), hlp, hz, (by (simp; omega)), (by (simp; omega)), (by (simp; omega)), trivial⟩) (by show ii + 1 ≤ n; omega) (by show n - (ii + 1) < n - ii; omega)
      · have hpe : (posL (wdOf (g ii)).key (rwl (dOf n g) ii)) = (rwl (dOf n g) ii).length := by omega
        have rows1 : ∀ (f : Nat → Nat → AV), _ → _ → _ → _ := fun f h1 h2 h3 => rw_rows (f := f) hz0 rfl h1 h2 h3
        refine round_norm (s0 := rwoU n l g st L) (T := fun i => rwoT n l g st L i) (i := ii) (ii + 1) (rwoc_1 ..) (cj ⟨rfl, rfl, rfl, (by omega), rfl, wrap_nat64 _ (by simp; omega) (by simp; omega), rfl, rfl, rfl, rfl, rfl, rfl, rfl, rfl, rfl, rfl, rfl, rfl, Nat.le_refl _, .inl ⟨rfl, rfl⟩, rfl, (by omega), .inr (rows1 _ (fun i q => by simp only [Nat.sub_zero, Nat.zero_add, q, if_true]; rfl) (by simp only [Nat.sub_zero, Nat.zero_add, Nat.lt_irrefl, if_false, Nat.sub_self, rowsOf_wj]; rfl) (fun i q qq => by omega)), (by (simp; done)), (by (simp; omega)), (by (simp; omega)), (by (simp; done)), (by (simp; omega)), (by (simp; omega)), (by (simp; omega)), (by (simp; omega)), (by (simp; done)), (by (simp [Nat.blt_eq, capOr]; omega)), hlp, hz, (by (simp; omega)), (by (simp; omega)), (by (simp; omega)), trivial⟩) (by show ii + 1 ≤ n; omega) (by show n - (ii + 1) < n - ii; omega)
  · obtain rfl : n = ii := by omega
    refine round_exit (s0 := rwoU n l g st L) (T := fun i => rwoT n l g st L i) (i := n) (rwod_1 ..) (by simp) (cj ⟨rfl, rfl, rfl, rfl, rfl, rfl, rfl, rfl, rfl, rfl, rfl, rfl, rfl, rfl, rfl, rfl, rfl, Nat.le_refl _, .inl ⟨rfl, rfl⟩, rfl, Nat.le_refl _, .inl ⟨rfl, rfl⟩, (by (simp; done)), trivial⟩)
end Go.Proofs.YtlpcdjhojfopjaaGreatDoor
