/-
  TablesFull: the first loop.
-/
import Derived.Test.YtmndhjodbnojdaaDoorJTjDef
set_option linter.unusedSimpArgs false
set_option linter.unusedVariables false
namespace Go.Proofs.YtmndhjodbnojdaaDoor
open Go.Ev
theorem tfla_1 (m : Nat) (f : Nat → Nat → AV) (x : Int) (nn : Int) (sh : Int) (rm : Int) (S : MS) (z0 : Int) (z1 : Int) (ii : Nat) : roundB ETi 3000 tflL ((tflU m f x nn sh rm S z0 z1).hp) [] (tflT m f x nn sh rm S z0 z1 ii) [Hint.b true, Hint.b false, Hint.b false, Hint.b false, Hint.b false, Hint.b false, Hint.b false, Hint.b false, Hint.b false, Hint.b false, Hint.b false, Hint.b false, Hint.b false, Hint.b false, Hint.b false] (tflT m f x nn sh rm S z0 z1 (ii + 1)) =
 some (Ex.norm, [(0 : Nat) = 0,
 m = m,
 (none : Option Nat) = none,
 x = x,
 nn = nn,
 (0 : Nat) = 0,
 (0 : Nat) = 0,
 sh = sh,
 rm = rm,
 (0 : Nat) = 0,
 (16 : Nat) = 16,
 some 16 = some 16,
 IntKind.i64.wrap (Int.ofNat ii + 1) = Int.ofNat (ii + 1),
 true = true,
 (1 : Nat) ≤ (1 : Nat),
 tabF tab = tabF tab ∧ plainSh (List.map kindOfV tab) = true ∨ ∀ (i : Nat), i < 1 → rowOb (List.map kindOfV tab) 0 (tabF tab i) (tabF tab i),
 true = true,
 m ≤ m,
 f = f ∧ plainSh [CK.int IntKind.u8] = true ∨ ∀ (i : Nat), i < m → rowOb [CK.int IntKind.u8] 0 (f i) (f i),
 IntKind.i64.wrap (IntKind.i64.wrap (IntKind.i64.wrap (IntKind.i64.wrap (IntKind.i64.wrap (IntKind.i64.wrap (IntKind.i64.wrap (IntKind.i64.wrap (IntKind.i64.wrap ((jdY (ovX x (fiN x S ii).S) (Int.ofNat ii)).st + 1) + 1) + 1) + 1) + 1) + 1) + 1) + 1) + 1) = (fiN x S (ii + 1)).S.st,
 (1 : Int) = 1,
 (8 : Int) = 8,
 jdG (ovX x (fiN x S ii).S) (Int.ofNat ii) = (fiN x S (ii + 1)).S.L.a,
 (9 : Int) = 9,
 mget (jdY (ovX x (fiN x S ii).S) (Int.ofNat ii)).M (key 8 (jdG (ovX x (fiN x S ii).S) (Int.ofNat ii)) 9) = (fiN x S (ii + 1)).S.L.w,
 mget (jdY (ovX x (fiN x S ii).S) (Int.ofNat ii)).M (key 8 (jdG (ovX x (fiN x S ii).S) (Int.ofNat ii)) 9) = (fiN x S (ii + 1)).S.L.i,
 false = (fiN x S (ii + 1)).S.L.d,
 ∀ (k : List Int), (jdY (ovX x (fiN x S ii).S) (Int.ofNat ii)).M k = (fiN x S (ii + 1)).S.M k,
 false = false,
 (16 : Nat) ≤ (16 : Nat),
 bF (fiN x S (ii + 1)).sn = Ev.upd (bF (fiN x S ii).sn) (0 + (jdG (ovX x (fiN x S ii).S) (Int.ofNat ii)).toNat) 0 (ofVal (Value.bool true)).cells ∧ plainSh [CK.bool] = true ∨ ∀ (i : Nat), i < 16 → rowOb [CK.bool] 0 (Ev.upd (bF (fiN x S ii).sn) (0 + (jdG (ovX x (fiN x S ii).S) (Int.ofNat ii)).toNat) 0 (ofVal (Value.bool true)).cells i) (bF (fiN x S (ii + 1)).sn i),
 (mget (jdY (ovX x (fiN x S ii).S) (Int.ofNat ii)).M (key 8 (jdG (ovX x (fiN x S ii).S) (Int.ofNat ii)) 9) != 0) = false,
 (mget (jdY (ovX x (fiN x S ii).S) (Int.ofNat ii)).M (key 8 (jdG (ovX x (fiN x S ii).S) (Int.ofNat ii)) 8) != 0) = false,
 (mget (jdY (ovX x (fiN x S ii).S) (Int.ofNat ii)).M (key 8 (jdG (ovX x (fiN x S ii).S) (Int.ofNat ii)) 7) != 0) = false,
 (mget (jdY (ovX x (fiN x S ii).S) (Int.ofNat ii)).M (key 8 (jdG (ovX x (fiN x S ii).S) (Int.ofNat ii)) 6) != 0) = false,
 (mget (jdY (ovX x (fiN x S ii).S) (Int.ofNat ii)).M (key 8 (jdG (ovX x (fiN x S ii).S) (Int.ofNat ii)) 5) != 0) = false,
 (mget (jdY (ovX x (fiN x S ii).S) (Int.ofNat ii)).M (key 8 (jdG (ovX x (fiN x S ii).S) (Int.ofNat ii)) 4) != 0) = false,
 (mget (jdY (ovX x (fiN x S ii).S) (Int.ofNat ii)).M (key 8 (jdG (ovX x (fiN x S ii).S) (Int.ofNat ii)) 3) != 0) = false,
 (mget (jdY (ovX x (fiN x S ii).S) (Int.ofNat ii)).M (key 8 (jdG (ovX x (fiN x S ii).S) (Int.ofNat ii)) 2) != 0) = false,
 (mget (jdY (ovX x (fiN x S ii).S) (Int.ofNat ii)).M (key 8 (jdG (ovX x (fiN x S ii).S) (Int.ofNat ii)) 1) != 0) = false,
 (0 + (jdG (ovX x (fiN x S ii).S) (Int.ofNat ii)).toNat).blt 16 = true,
 ((jdG (ovX x (fiN x S ii).S) (Int.ofNat ii)).toNat.blt 16 && decide (0 ≤ jdG (ovX x (fiN x S ii).S) (Int.ofNat ii))) = true,
 (IntKind.i64.wrap ((jdG (ovX x (fiN x S ii).S) (Int.ofNat ii)).tdiv 4) == sh) = false,
 (fiN x S ii).sn (0 + (jdG (ovX x (fiN x S ii).S) (Int.ofNat ii)).toNat) = false,
 (0 + (jdG (ovX x (fiN x S ii).S) (Int.ofNat ii)).toNat).blt 16 = true,
 ((jdG (ovX x (fiN x S ii).S) (Int.ofNat ii)).toNat.blt 16 && decide (0 ≤ jdG (ovX x (fiN x S ii).S) (Int.ofNat ii))) = true,
 decide (jdG (ovX x (fiN x S ii).S) (Int.ofNat ii) ≥ IntKind.i64.wrap (nn * 4)) = false,
 decide (jdG (ovX x (fiN x S ii).S) (Int.ofNat ii) < 0) = false,
 (jdE (ovX x (fiN x S ii).S) (Int.ofNat ii) != 0) = false,
 tabF tab = tabF tab,
 U64 (fiN x S ii).S,
 R64 x,
 JdOk (ovX x (fiN x S ii).S) (Int.ofNat ii),
 decide (Int.ofNat ii < rm) = true]) := by kernel_rfl
theorem tflx_1 (m : Nat) (f : Nat → Nat → AV) (x : Int) (nn : Int) (sh : Int) (rm : Int) (S : MS) (z0 : Int) (z1 : Int) (ii : Nat) : roundB ETi 3000 tflL ((tflU m f x nn sh rm S z0 z1).hp) [] (tflT m f x nn sh rm S z0 z1 ii) [Hint.b false] (tflX m f x nn sh rm S z0 z1 ii) =
 some (Ex.exit 0, [(0 : Nat) = 0,
 m = m,
 (none : Option Nat) = none,
 x = x,
 nn = nn,
 (0 : Nat) = 0,
 (0 : Nat) = 0,
 sh = sh,
 rm = rm,
 (0 : Nat) = 0,
 (16 : Nat) = 16,
 some 16 = some 16,
 true = true,
 (1 : Nat) ≤ (1 : Nat),
 tabF tab = tabF tab ∧ plainSh (List.map kindOfV tab) = true ∨ ∀ (i : Nat), i < 1 → rowOb (List.map kindOfV tab) 0 (tabF tab i) (tabF tab i),
 true = true,
 m ≤ m,
 f = f ∧ plainSh [CK.int IntKind.u8] = true ∨ ∀ (i : Nat), i < m → rowOb [CK.int IntKind.u8] 0 (f i) (f i),
 (fiN x S ii).S.st = (fiN x S ii).S.st,
 (fiN x S ii).S.L.c = (fiN x S ii).S.L.c,
 (fiN x S ii).S.L.k = (fiN x S ii).S.L.k,
 (fiN x S ii).S.L.a = (fiN x S ii).S.L.a,
 (fiN x S ii).S.L.f = (fiN x S ii).S.L.f,
 (fiN x S ii).S.L.w = (fiN x S ii).S.L.w,
 (fiN x S ii).S.L.i = (fiN x S ii).S.L.i,
 (fiN x S ii).S.L.d = (fiN x S ii).S.L.d,
 ∀ (k : List Int), (fiN x S ii).S.M k = (fiN x S ii).S.M k,
 false = false,
 (16 : Nat) ≤ (16 : Nat),
 bF (fiN x S ii).sn = bF (fiN x S ii).sn ∧ plainSh [CK.bool] = true ∨ ∀ (i : Nat), i < 16 → rowOb [CK.bool] 0 (bF (fiN x S ii).sn i) (bF (fiN x S ii).sn i),
 decide (Int.ofNat ii < rm) = false]) := by kernel_rfl
theorem tfli_1 (m : Nat) (f : Nat → Nat → AV) (x : Int) (nn : Int) (sh : Int) (rm : Int) (S : MS) (z0 : Int) (z1 : Int) : castSt ((tflU m f x nn sh rm S z0 z1).hp) [] (tflU m f x nn sh rm S z0 z1) (tflT m f x nn sh rm S z0 z1 0) =
 some ([(0 : Nat) = 0,
 m = m,
 (none : Option Nat) = none,
 x = x,
 nn = nn,
 (0 : Nat) = 0,
 (0 : Nat) = 0,
 sh = sh,
 rm = rm,
 (0 : Nat) = 0,
 (16 : Nat) = 16,
 some 16 = some 16,
 (0 : Int) = 0,
 true = true,
 (1 : Nat) ≤ (1 : Nat),
 tabF tab = tabF tab ∧ plainSh (List.map kindOfV tab) = true ∨ ∀ (i : Nat), i < 1 → rowOb (List.map kindOfV tab) 0 (tabF tab i) (tabF tab i),
 true = true,
 m ≤ m,
 f = f ∧ plainSh [CK.int IntKind.u8] = true ∨ ∀ (i : Nat), i < m → rowOb [CK.int IntKind.u8] 0 (f i) (f i),
 S.st = (fiN x S 0).S.st,
 S.L.c = (fiN x S 0).S.L.c,
 S.L.k = (fiN x S 0).S.L.k,
 S.L.a = (fiN x S 0).S.L.a,
 S.L.f = (fiN x S 0).S.L.f,
 S.L.w = (fiN x S 0).S.L.w,
 S.L.i = (fiN x S 0).S.L.i,
 S.L.d = (fiN x S 0).S.L.d,
 ∀ (k : List Int), S.M k = (fiN x S 0).S.M k,
 (16 : Nat) = 16,
 ∀ (i : Nat), i < 16 → rowOb [CK.bool] 0 (listRow 1 [AV.bool false, AV.bool false, AV.bool false, AV.bool false, AV.bool false, AV.bool false, AV.bool false, AV.bool false, AV.bool false, AV.bool false, AV.bool false, AV.bool false, AV.bool false, AV.bool false, AV.bool false, AV.bool false] i) (bF (fiN x S 0).sn i)]) := by kernel_rfl
theorem tfl_lp (m : Nat) (f : Nat → Nat → AV) (x : Int) (nn : Int) (sh : Int) (rm : Int) (S : MS) (z0 : Int) (z1 : Int) (hm : m ≤ 1000) (hx : 0 ≤ x ∧ x < 18446744073709551616) (hn : nn = (nn.toNat : Int)) (hs0 : sh = (sh.toNat : Int)) (hs : sh.toNat ≤ nn.toNat) (hrm : rm = (roomN nn.toNat sh.toNat : Nat)) (htb : TB S nn.toNat sh.toNat (fun _ => 0)) : tflLP m f x nn sh rm S z0 z1 := by
  refine loop_rule ETi_ok (I := Nat) (fun i => tflT m f x nn sh rm S z0 z1 i) (fun i => rm.toNat - i) (fun i => i ≤ rm.toNat) ?_ (fun ii hi => ?_)
  ·
    refine ⟨0, [], _, Nat.zero_le _, tfli_1 .., (ob_cons rfl (ob_cons rfl (ob_cons rfl (ob_cons rfl (ob_cons rfl (ob_cons rfl (ob_cons rfl (ob_cons rfl (ob_cons rfl (ob_cons rfl (ob_cons rfl (ob_cons rfl (ob_cons rfl (ob_cons rfl (ob_cons (Nat.le_refl _) (ob_cons (.inl ⟨rfl, rfl⟩) (ob_cons rfl (ob_cons (Nat.le_refl _) (ob_cons (.inl ⟨rfl, rfl⟩) (ob_cons ?_ (ob_cons ?_ (ob_cons ?_ (ob_cons ?_ (ob_cons ?_ (ob_cons ?_ (ob_cons ?_ (ob_cons ?_ (ob_cons ?_ (ob_cons rfl (ob_cons ?_ ob_nil))))))))))))))))))))))))))))))⟩
    · exact rfl
    · exact rfl
    · exact rfl
    · exact rfl
    · exact rfl
    · exact rfl
    · exact rfl
    · exact rfl
    · exact fun _ => rfl
    · exact bF0_rows
  have hi : ii ≤ rm.toNat := hi
  have n4 := htb.n4
  by_cases hlt : ii < rm.toNat
  · have hir : ii < roomN nn.toNat sh.toNat := by omega
    have hr16 : roomN nn.toNat sh.toNat ≤ 16 := by unfold roomN; split <;> omega
    have hfr := fi_r htb hx hs hir
    have hfu : U64 (fiN x S ii).S := (fi_all htb hx hs ii (by omega)).tb.u
    have hg : (jdG (ovX x (fiN x S ii).S) (Int.ofNat ii)) = (thr sh.toNat ii : Nat) := hfr.g
    have t4 := hfr.t4
    have ts := hfr.ts
    have hgt : decide (Int.ofNat ii < rm) = true := decide_eq_true (by show (ii : Int) < rm; omega)
    have hft0 : decide ((jdG (ovX x (fiN x S ii).S) (Int.ofNat ii)) < 0) = false := by rw [hg]; exact decide_eq_false (by omega)
    have hft1 : decide ((jdG (ovX x (fiN x S ii).S) (Int.ofNat ii)) ≥ IntKind.i64.wrap (nn * 4)) = false := by rw [hg, i64w (by omega) (by omega)]; exact decide_eq_false (by omega)
    have hft2 : (0 + (jdG (ovX x (fiN x S ii).S) (Int.ofNat ii)).toNat).blt 16 = true := by rw [hg]; simp [Nat.blt_eq]; omega
    have hft3 : ((jdG (ovX x (fiN x S ii).S) (Int.ofNat ii)).toNat.blt 16 && decide (0 ≤ (jdG (ovX x (fiN x S ii).S) (Int.ofNat ii)))) = true := by rw [hg]; simp [Nat.blt_eq]; omega
    have hft4 : (IntKind.i64.wrap ((jdG (ovX x (fiN x S ii).S) (Int.ofNat ii)).tdiv 4) == sh) = false := by rw [hg, Int.tdiv_eq_ediv_of_nonneg (by omega), i64w (by omega) (by omega)]; exact eqF (by omega)
    have hft5 : (fiN x S ii).sn (0 + (jdG (ovX x (fiN x S ii).S) (Int.ofNat ii)).toNat) = false := by rw [hg, Int.toNat_natCast, Nat.zero_add]; exact hfr.sn
    have hfl1 : (mget (jdY (ovX x (fiN x S ii).S) (Int.ofNat ii)).M (key 8 (jdG (ovX x (fiN x S ii).S) (Int.ofNat ii)) 1) != 0) = false := bne_f (by rw [hg]; exact hfr.cl 1 (by decide) (by decide))
    have hfl2 : (mget (jdY (ovX x (fiN x S ii).S) (Int.ofNat ii)).M (key 8 (jdG (ovX x (fiN x S ii).S) (Int.ofNat ii)) 2) != 0) = false := bne_f (by rw [hg]; exact hfr.cl 2 (by decide) (by decide))
    have hfl3 : (mget (jdY (ovX x (fiN x S ii).S) (Int.ofNat ii)).M (key 8 (jdG (ovX x (fiN x S ii).S) (Int.ofNat ii)) 3) != 0) = false := bne_f (by rw [hg]; exact hfr.cl 3 (by decide) (by decide))
    have hfl4 : (mget (jdY (ovX x (fiN x S ii).S) (Int.ofNat ii)).M (key 8 (jdG (ovX x (fiN x S ii).S) (Int.ofNat ii)) 4) != 0) = false := bne_f (by rw [hg]; exact hfr.cl 4 (by decide) (by decide))
    have hfl5 : (mget (jdY (ovX x (fiN x S ii).S) (Int.ofNat ii)).M (key 8 (jdG (ovX x (fiN x S ii).S) (Int.ofNat ii)) 5) != 0) = false := bne_f (by rw [hg]; exact hfr.cl 5 (by decide) (by decide))
    have hfl6 : (mget (jdY (ovX x (fiN x S ii).S) (Int.ofNat ii)).M (key 8 (jdG (ovX x (fiN x S ii).S) (Int.ofNat ii)) 6) != 0) = false := bne_f (by rw [hg]; exact hfr.cl 6 (by decide) (by decide))
    have hfl7 : (mget (jdY (ovX x (fiN x S ii).S) (Int.ofNat ii)).M (key 8 (jdG (ovX x (fiN x S ii).S) (Int.ofNat ii)) 7) != 0) = false := bne_f (by rw [hg]; exact hfr.cl 7 (by decide) (by decide))
    have hfl8 : (mget (jdY (ovX x (fiN x S ii).S) (Int.ofNat ii)).M (key 8 (jdG (ovX x (fiN x S ii).S) (Int.ofNat ii)) 8) != 0) = false := bne_f (by rw [hg]; exact hfr.cl 8 (by decide) (by decide))
    have hfl9 : (mget (jdY (ovX x (fiN x S ii).S) (Int.ofNat ii)).M (key 8 (jdG (ovX x (fiN x S ii).S) (Int.ofNat ii)) 9) != 0) = false := bne_f (by rw [hg]; exact hfr.cl 9 (by decide) (by decide))
    have hrow : ∀ (i : Nat), i < 16 → rowOb [CK.bool] 0 (Ev.upd (bF (fiN x S ii).sn) (0 + (jdG (ovX x (fiN x S ii).S) (Int.ofNat ii)).toNat) 0 (ofVal (Value.bool true)).cells i) (bF (fiN x S (ii + 1)).sn i) := fun i hi => by
      refine ⟨?_, trivial⟩
      show AV.symb (if i = (jdG (ovX x (fiN x S ii).S) (Int.ofNat ii)).toNat then true else (fiN x S ii).sn i) = _
      rw [Nat.zero_add]
      by_cases c : i = (jdG (ovX x (fiN x S ii).S) (Int.ofNat ii)).toNat
      · rw [if_pos c]
        show _ = AV.symb (avBool (if i = (jdG (ovX x (fiN x S ii).S) (Int.ofNat ii)).toNat then _ else _))
        rw [if_pos c]; rfl
      · rw [if_neg c]
        show _ = AV.symb (avBool (if i = (jdG (ovX x (fiN x S ii).S) (Int.ofNat ii)).toNat then _ else _))
        rw [if_neg c]; rfl
    refine round_norm (s0 := tflU m f x nn sh rm S z0 z1) (T := fun i => tflT m f x nn sh rm S z0 z1 i) (i := ii) (ii + 1) (tfla_1 ..) (ob_cons rfl (ob_cons rfl (ob_cons rfl (ob_cons rfl (ob_cons rfl (ob_cons rfl (ob_cons rfl (ob_cons rfl (ob_cons rfl (ob_cons rfl (ob_cons rfl (ob_cons rfl (ob_cons ?_ (ob_cons rfl (ob_cons (Nat.le_refl _) (ob_cons (.inl ⟨rfl, rfl⟩) (ob_cons rfl (ob_cons (Nat.le_refl _) (ob_cons (.inl ⟨rfl, rfl⟩) (ob_cons ?_ (ob_cons rfl (ob_cons rfl (ob_cons ?_ (ob_cons rfl (ob_cons ?_ (ob_cons ?_ (ob_cons ?_ (ob_cons ?_ (ob_cons rfl (ob_cons (Nat.le_refl _) (ob_cons ?_ (ob_cons ?_ (ob_cons ?_ (ob_cons ?_ (ob_cons ?_ (ob_cons ?_ (ob_cons ?_ (ob_cons ?_ (ob_cons ?_ (ob_cons ?_ (ob_cons ?_ (ob_cons ?_ (ob_cons ?_ (ob_cons ?_ (ob_cons ?_ (ob_cons ?_ (ob_cons ?_ (ob_cons ?_ (ob_cons ?_ (ob_cons rfl (ob_cons ?_ (ob_cons ?_ (ob_cons ?_ (ob_cons ?_ ob_nil)))))))))))))))))))))))))))))))))))))))))))))))))))))) (by show ii + 1 ≤ rm.toNat; omega) (by show rm.toNat - (ii + 1) < rm.toNat - ii; omega)
    · exact wrap_nat64 _ (by simp; omega) (by simp; omega)
    · exact rfl
    · exact rfl
    · exact rfl
    · exact rfl
    · exact rfl
    · exact fun _ => rfl
    · exact .inr hrow
    · with_reducible assumption
    · with_reducible assumption
    · with_reducible assumption
    · with_reducible assumption
    · with_reducible assumption
    · with_reducible assumption
    · with_reducible assumption
    · with_reducible assumption
    · with_reducible assumption
    · with_reducible assumption
    · with_reducible assumption
    · with_reducible assumption
    · with_reducible assumption
    · with_reducible assumption
    · with_reducible assumption
    · with_reducible assumption
    · with_reducible assumption
    · exact bne_f hfr.e
    · with_reducible assumption
    · exact hx
    · exact hfr.ok
    · with_reducible assumption
  · obtain rfl : rm.toNat = ii := by omega
    have hgt : decide (Int.ofNat rm.toNat < rm) = false := decide_eq_false (by show ¬ ((rm.toNat : Nat) : Int) < rm; omega)
    refine round_exit (s0 := tflU m f x nn sh rm S z0 z1) (T := fun i => tflT m f x nn sh rm S z0 z1 i) (i := rm.toNat) (tflx_1 ..) (by simp) (ob_cons rfl (ob_cons rfl (ob_cons rfl (ob_cons rfl (ob_cons rfl (ob_cons rfl (ob_cons rfl (ob_cons rfl (ob_cons rfl (ob_cons rfl (ob_cons rfl (ob_cons rfl (ob_cons rfl (ob_cons (Nat.le_refl _) (ob_cons (.inl ⟨rfl, rfl⟩) (ob_cons rfl (ob_cons (Nat.le_refl _) (ob_cons (.inl ⟨rfl, rfl⟩) (ob_cons rfl (ob_cons rfl (ob_cons rfl (ob_cons rfl (ob_cons rfl (ob_cons rfl (ob_cons rfl (ob_cons rfl (ob_cons (fun _ => rfl) (ob_cons rfl (ob_cons (Nat.le_refl _) (ob_cons (.inl ⟨rfl, rfl⟩) (ob_cons ?_ ob_nil)))))))))))))))))))))))))))))))
    · with_reducible assumption

end Go.Proofs.YtmndhjodbnojdaaDoor
