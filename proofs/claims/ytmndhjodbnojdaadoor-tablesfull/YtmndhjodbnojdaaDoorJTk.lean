/-
  TablesFull: the second loop.
-/
import Derived.Test.YtmndhjodbnojdaaDoorJTkDef
set_option linter.unusedSimpArgs false
set_option linter.unusedVariables false
namespace Go.Proofs.YtmndhjodbnojdaaDoor
open Go.Ev
theorem tqla_1 (m : Nat) (f : Nat → Nat → AV) (nn : Int) (sh : Int) (sn : Nat → Bool) (S : MS) (ii : Nat) : roundB ETi 3000 tqlL ((tqlU m f nn sh sn S).hp) [] (tqlT m f nn sh sn S ii) [Hint.b true, Hint.b false, Hint.b false, Hint.b false, Hint.b false, Hint.b false] (tqlT m f nn sh sn S (ii + 1)) =
 some (Ex.norm, [(0 : Nat) = 0,
 m = m,
 (none : Option Nat) = none,
 nn = nn,
 (0 : Nat) = 0,
 (0 : Nat) = 0,
 (0 : Nat) = 0,
 (16 : Nat) = 16,
 some 16 = some 16,
 IntKind.i64.wrap (Int.ofNat ii + 1) = Int.ofNat (ii + 1),
 true = true,
 (1 : Nat) ≤ (1 : Nat),
 tabF tab = tabF tab ∧ plainSh (List.map kindOfV tab) = true ∨ ∀ (i : Nat), i < 1 → rowOb (List.map kindOfV tab) 0 (tabF tab i) (tabF tab i),
 true = true,
 m ≤ m,
 f = f ∧ plainSh [CK.int IntKind.u8] = true ∨ ∀ (i : Nat), i < m → rowOb [CK.int IntKind.u8] 0 (f i) (f i),
 (jdY (jdY (ldY (lqN f nn sn S ii) ((IntKind.i64.wrap (avInt (f (0 + ii) 0))).tmod (IntKind.i64.wrap (nn * 4)))) 5) 5).st = (lqN f nn sn S (ii + 1)).st,
 (jdY (jdY (ldY (lqN f nn sn S ii) ((IntKind.i64.wrap (avInt (f (0 + ii) 0))).tmod (IntKind.i64.wrap (nn * 4)))) 5) 5).L.c = (lqN f nn sn S (ii + 1)).L.c,
 (jdY (jdY (ldY (lqN f nn sn S ii) ((IntKind.i64.wrap (avInt (f (0 + ii) 0))).tmod (IntKind.i64.wrap (nn * 4)))) 5) 5).L.k = (lqN f nn sn S (ii + 1)).L.k,
 (jdY (jdY (ldY (lqN f nn sn S ii) ((IntKind.i64.wrap (avInt (f (0 + ii) 0))).tmod (IntKind.i64.wrap (nn * 4)))) 5) 5).L.a = (lqN f nn sn S (ii + 1)).L.a,
 (jdY (jdY (ldY (lqN f nn sn S ii) ((IntKind.i64.wrap (avInt (f (0 + ii) 0))).tmod (IntKind.i64.wrap (nn * 4)))) 5) 5).L.f = (lqN f nn sn S (ii + 1)).L.f,
 (jdY (jdY (ldY (lqN f nn sn S ii) ((IntKind.i64.wrap (avInt (f (0 + ii) 0))).tmod (IntKind.i64.wrap (nn * 4)))) 5) 5).L.w = (lqN f nn sn S (ii + 1)).L.w,
 (jdY (jdY (ldY (lqN f nn sn S ii) ((IntKind.i64.wrap (avInt (f (0 + ii) 0))).tmod (IntKind.i64.wrap (nn * 4)))) 5) 5).L.i = (lqN f nn sn S (ii + 1)).L.i,
 (jdY (jdY (ldY (lqN f nn sn S ii) ((IntKind.i64.wrap (avInt (f (0 + ii) 0))).tmod (IntKind.i64.wrap (nn * 4)))) 5) 5).L.d = (lqN f nn sn S (ii + 1)).L.d,
 ∀ (k : List Int), (jdY (jdY (ldY (lqN f nn sn S ii) ((IntKind.i64.wrap (avInt (f (0 + ii) 0))).tmod (IntKind.i64.wrap (nn * 4)))) 5) 5).M k = (lqN f nn sn S (ii + 1)).M k,
 false = false,
 (16 : Nat) ≤ (16 : Nat),
 bF sn = bF sn ∧ plainSh [CK.bool] = true ∨ ∀ (i : Nat), i < 16 → rowOb [CK.bool] 0 (bF sn i) (bF sn i),
 (jdE (jdY (ldY (lqN f nn sn S ii) ((IntKind.i64.wrap (avInt (f (0 + ii) 0))).tmod (IntKind.i64.wrap (nn * 4)))) 5) 5 != 5) = false,
 (jdE (ldY (lqN f nn sn S ii) ((IntKind.i64.wrap (avInt (f (0 + ii) 0))).tmod (IntKind.i64.wrap (nn * 4)))) 5 != 0) = false,
 (jdG (ldY (lqN f nn sn S ii) ((IntKind.i64.wrap (avInt (f (0 + ii) 0))).tmod (IntKind.i64.wrap (nn * 4)))) 5 != (IntKind.i64.wrap (avInt (f (0 + ii) 0))).tmod (IntKind.i64.wrap (nn * 4))) = false,
 (ldE (lqN f nn sn S ii) ((IntKind.i64.wrap (avInt (f (0 + ii) 0))).tmod (IntKind.i64.wrap (nn * 4))) != 0) = false,
 tabF tab = tabF tab,
 JdOk (jdY (ldY (lqN f nn sn S ii) ((IntKind.i64.wrap (avInt (f (0 + ii) 0))).tmod (IntKind.i64.wrap (nn * 4)))) 5) 5,
 tabF tab = tabF tab,
 JdOk (ldY (lqN f nn sn S ii) ((IntKind.i64.wrap (avInt (f (0 + ii) 0))).tmod (IntKind.i64.wrap (nn * 4)))) 5,
 (!sn (0 + ((IntKind.i64.wrap (avInt (f (0 + ii) 0))).tmod (IntKind.i64.wrap (nn * 4))).toNat)) = false,
 (0 + ((IntKind.i64.wrap (avInt (f (0 + ii) 0))).tmod (IntKind.i64.wrap (nn * 4))).toNat).blt 16 = true,
 (((IntKind.i64.wrap (avInt (f (0 + ii) 0))).tmod (IntKind.i64.wrap (nn * 4))).toNat.blt 16 && decide (0 ≤ (IntKind.i64.wrap (avInt (f (0 + ii) 0))).tmod (IntKind.i64.wrap (nn * 4)))) = true,
 tabF tab = tabF tab,
 LdOk (lqN f nn sn S ii) ((IntKind.i64.wrap (avInt (f (0 + ii) 0))).tmod (IntKind.i64.wrap (nn * 4))),
 decide (IntKind.i64.wrap (nn * 4) ≠ 0) = true,
 (0 + ii).blt m = true,
 (ii.blt m && decide (0 ≤ Int.ofNat ii)) = true,
 decide (Int.ofNat ii < Int.ofNat m) = true]) := by kernel_rfl
theorem tqlb_1 (m : Nat) (f : Nat → Nat → AV) (nn : Int) (sh : Int) (sn : Nat → Bool) (S : MS) (ii : Nat) : roundB ETi 3000 tqlL ((tqlU m f nn sh sn S).hp) [] (tqlT m f nn sh sn S ii) [Hint.b true, Hint.b true, Hint.b false] (tqlT m f nn sh sn S (ii + 1)) =
 some (Ex.norm, [(0 : Nat) = 0,
 m = m,
 (none : Option Nat) = none,
 nn = nn,
 (0 : Nat) = 0,
 (0 : Nat) = 0,
 (0 : Nat) = 0,
 (16 : Nat) = 16,
 some 16 = some 16,
 IntKind.i64.wrap (Int.ofNat ii + 1) = Int.ofNat (ii + 1),
 true = true,
 (1 : Nat) ≤ (1 : Nat),
 tabF tab = tabF tab ∧ plainSh (List.map kindOfV tab) = true ∨ ∀ (i : Nat), i < 1 → rowOb (List.map kindOfV tab) 0 (tabF tab i) (tabF tab i),
 true = true,
 m ≤ m,
 f = f ∧ plainSh [CK.int IntKind.u8] = true ∨ ∀ (i : Nat), i < m → rowOb [CK.int IntKind.u8] 0 (f i) (f i),
 (ldY (lqN f nn sn S ii) ((IntKind.i64.wrap (avInt (f (0 + ii) 0))).tmod (IntKind.i64.wrap (nn * 4)))).st = (lqN f nn sn S (ii + 1)).st,
 (ldY (lqN f nn sn S ii) ((IntKind.i64.wrap (avInt (f (0 + ii) 0))).tmod (IntKind.i64.wrap (nn * 4)))).L.c = (lqN f nn sn S (ii + 1)).L.c,
 (ldY (lqN f nn sn S ii) ((IntKind.i64.wrap (avInt (f (0 + ii) 0))).tmod (IntKind.i64.wrap (nn * 4)))).L.k = (lqN f nn sn S (ii + 1)).L.k,
 (ldY (lqN f nn sn S ii) ((IntKind.i64.wrap (avInt (f (0 + ii) 0))).tmod (IntKind.i64.wrap (nn * 4)))).L.a = (lqN f nn sn S (ii + 1)).L.a,
 (ldY (lqN f nn sn S ii) ((IntKind.i64.wrap (avInt (f (0 + ii) 0))).tmod (IntKind.i64.wrap (nn * 4)))).L.f = (lqN f nn sn S (ii + 1)).L.f,
 (ldY (lqN f nn sn S ii) ((IntKind.i64.wrap (avInt (f (0 + ii) 0))).tmod (IntKind.i64.wrap (nn * 4)))).L.w = (lqN f nn sn S (ii + 1)).L.w,
 (ldY (lqN f nn sn S ii) ((IntKind.i64.wrap (avInt (f (0 + ii) 0))).tmod (IntKind.i64.wrap (nn * 4)))).L.i = (lqN f nn sn S (ii + 1)).L.i,
 (ldY (lqN f nn sn S ii) ((IntKind.i64.wrap (avInt (f (0 + ii) 0))).tmod (IntKind.i64.wrap (nn * 4)))).L.d = (lqN f nn sn S (ii + 1)).L.d,
 ∀ (k : List Int), (ldY (lqN f nn sn S ii) ((IntKind.i64.wrap (avInt (f (0 + ii) 0))).tmod (IntKind.i64.wrap (nn * 4)))).M k = (lqN f nn sn S (ii + 1)).M k,
 false = false,
 (16 : Nat) ≤ (16 : Nat),
 bF sn = bF sn ∧ plainSh [CK.bool] = true ∨ ∀ (i : Nat), i < 16 → rowOb [CK.bool] 0 (bF sn i) (bF sn i),
 (ldE (lqN f nn sn S ii) ((IntKind.i64.wrap (avInt (f (0 + ii) 0))).tmod (IntKind.i64.wrap (nn * 4))) != 6) = false,
 (!sn (0 + ((IntKind.i64.wrap (avInt (f (0 + ii) 0))).tmod (IntKind.i64.wrap (nn * 4))).toNat)) = true,
 (0 + ((IntKind.i64.wrap (avInt (f (0 + ii) 0))).tmod (IntKind.i64.wrap (nn * 4))).toNat).blt 16 = true,
 (((IntKind.i64.wrap (avInt (f (0 + ii) 0))).tmod (IntKind.i64.wrap (nn * 4))).toNat.blt 16 && decide (0 ≤ (IntKind.i64.wrap (avInt (f (0 + ii) 0))).tmod (IntKind.i64.wrap (nn * 4)))) = true,
 tabF tab = tabF tab,
 LdOk (lqN f nn sn S ii) ((IntKind.i64.wrap (avInt (f (0 + ii) 0))).tmod (IntKind.i64.wrap (nn * 4))),
 decide (IntKind.i64.wrap (nn * 4) ≠ 0) = true,
 (0 + ii).blt m = true,
 (ii.blt m && decide (0 ≤ Int.ofNat ii)) = true,
 decide (Int.ofNat ii < Int.ofNat m) = true]) := by kernel_rfl
theorem tqlx_1 (m : Nat) (f : Nat → Nat → AV) (nn : Int) (sh : Int) (sn : Nat → Bool) (S : MS) (ii : Nat) : roundB ETi 3000 tqlL ((tqlU m f nn sh sn S).hp) [] (tqlT m f nn sh sn S ii) [Hint.b false] (tqlX m f nn sh sn S ii) =
 some (Ex.exit 4, [(0 : Nat) = 0,
 m = m,
 (none : Option Nat) = none,
 nn = nn,
 (0 : Nat) = 0,
 (0 : Nat) = 0,
 (0 : Nat) = 0,
 (16 : Nat) = 16,
 some 16 = some 16,
 true = true,
 (1 : Nat) ≤ (1 : Nat),
 tabF tab = tabF tab ∧ plainSh (List.map kindOfV tab) = true ∨ ∀ (i : Nat), i < 1 → rowOb (List.map kindOfV tab) 0 (tabF tab i) (tabF tab i),
 true = true,
 m ≤ m,
 f = f ∧ plainSh [CK.int IntKind.u8] = true ∨ ∀ (i : Nat), i < m → rowOb [CK.int IntKind.u8] 0 (f i) (f i),
 (lqN f nn sn S ii).st = (lqN f nn sn S ii).st,
 (lqN f nn sn S ii).L.c = (lqN f nn sn S ii).L.c,
 (lqN f nn sn S ii).L.k = (lqN f nn sn S ii).L.k,
 (lqN f nn sn S ii).L.a = (lqN f nn sn S ii).L.a,
 (lqN f nn sn S ii).L.f = (lqN f nn sn S ii).L.f,
 (lqN f nn sn S ii).L.w = (lqN f nn sn S ii).L.w,
 (lqN f nn sn S ii).L.i = (lqN f nn sn S ii).L.i,
 (lqN f nn sn S ii).L.d = (lqN f nn sn S ii).L.d,
 ∀ (k : List Int), (lqN f nn sn S ii).M k = (lqN f nn sn S ii).M k,
 false = false,
 (16 : Nat) ≤ (16 : Nat),
 bF sn = bF sn ∧ plainSh [CK.bool] = true ∨ ∀ (i : Nat), i < 16 → rowOb [CK.bool] 0 (bF sn i) (bF sn i),
 decide (Int.ofNat ii < Int.ofNat m) = false]) := by kernel_rfl
theorem tqli_1 (m : Nat) (f : Nat → Nat → AV) (nn : Int) (sh : Int) (sn : Nat → Bool) (S : MS) : castSt ((tqlU m f nn sh sn S).hp) [] (tqlU m f nn sh sn S) (tqlT m f nn sh sn S 0) =
 some ([(0 : Nat) = 0,
 m = m,
 (none : Option Nat) = none,
 nn = nn,
 (0 : Nat) = 0,
 (0 : Nat) = 0,
 (0 : Nat) = 0,
 (16 : Nat) = 16,
 some 16 = some 16,
 (0 : Int) = 0,
 true = true,
 (1 : Nat) ≤ (1 : Nat),
 tabF tab = tabF tab ∧ plainSh (List.map kindOfV tab) = true ∨ ∀ (i : Nat), i < 1 → rowOb (List.map kindOfV tab) 0 (tabF tab i) (tabF tab i),
 true = true,
 m ≤ m,
 f = f ∧ plainSh [CK.int IntKind.u8] = true ∨ ∀ (i : Nat), i < m → rowOb [CK.int IntKind.u8] 0 (f i) (f i),
 S.st = (lqN f nn sn S 0).st,
 S.L.c = (lqN f nn sn S 0).L.c,
 S.L.k = (lqN f nn sn S 0).L.k,
 S.L.a = (lqN f nn sn S 0).L.a,
 S.L.f = (lqN f nn sn S 0).L.f,
 S.L.w = (lqN f nn sn S 0).L.w,
 S.L.i = (lqN f nn sn S 0).L.i,
 S.L.d = (lqN f nn sn S 0).L.d,
 ∀ (k : List Int), S.M k = (lqN f nn sn S 0).M k,
 false = false,
 (16 : Nat) ≤ (16 : Nat),
 bF sn = bF sn ∧ plainSh [CK.bool] = true ∨ ∀ (i : Nat), i < 16 → rowOb [CK.bool] 0 (bF sn i) (bF sn i)]) := by kernel_rfl
theorem tql_lp (m : Nat) (f : Nat → Nat → AV) (nn : Int) (sh : Int) (sn : Nat → Bool) (S : MS) (hm : m ≤ 1000) (hn : nn = (nn.toNat : Int)) (n1 : 1 ≤ nn.toNat) (n4 : nn.toNat ≤ 4) (hfu : Fu S nn.toNat sh.toNat) (hsn : ∀ q, q < 4 * nn.toNat → sn q = decide (q / 4 ≠ sh.toNat)) (hr : ∀ k, k < m → 0 ≤ avInt (f k 0) ∧ avInt (f k 0) < 256) : tqlLP m f nn sh sn S := by
  refine loop_rule ETi_ok (I := Nat) (fun i => tqlT m f nn sh sn S i) (fun i => m - i) (fun i => i ≤ m) ?_ (fun ii hi => ?_)
  ·
    refine ⟨0, [], _, Nat.zero_le _, tqli_1 .., (ob_cons rfl (ob_cons rfl (ob_cons rfl (ob_cons rfl (ob_cons rfl (ob_cons rfl (ob_cons rfl (ob_cons rfl (ob_cons rfl (ob_cons rfl (ob_cons rfl (ob_cons (Nat.le_refl _) (ob_cons (.inl ⟨rfl, rfl⟩) (ob_cons rfl (ob_cons (Nat.le_refl _) (ob_cons (.inl ⟨rfl, rfl⟩) (ob_cons ?_ (ob_cons ?_ (ob_cons ?_ (ob_cons ?_ (ob_cons ?_ (ob_cons ?_ (ob_cons ?_ (ob_cons ?_ (ob_cons ?_ (ob_cons rfl (ob_cons (Nat.le_refl _) (ob_cons (.inl ⟨rfl, rfl⟩) ob_nil))))))))))))))))))))))))))))⟩
    · exact rfl
    · exact rfl
    · exact rfl
    · exact rfl
    · exact rfl
    · exact rfl
    · exact rfl
    · exact rfl
    · exact fun _ => rfl
  have hi : ii ≤ m := hi
  by_cases hlt : ii < m
  · have hgt : decide (Int.ofNat ii < Int.ofNat m) = true := decide_eq_true (by show (ii : Int) < m; omega)
    have hf0 : Fu (lqN f nn sn S ii) nn.toNat sh.toNat := by
      have := lq_all (sn := sn) hfu n1 n4 hsn hr ii (by omega)
      rw [← hn] at this; exact this
    obtain ⟨t, ht, ht4⟩ := lqT_is (f := f) (i := ii) n1 n4 (hr ii hlt)
    rw [← hn] at ht
    have hq2 : (0 + (lqT f nn ii).toNat).blt 16 = true := by rw [ht]; simp [Nat.blt_eq]; omega
    have hq3 : ((lqT f nn ii).toNat.blt 16 && decide (0 ≤ (lqT f nn ii))) = true := by rw [ht]; simp [Nat.blt_eq]; omega
    have hne : decide (IntKind.i64.wrap (nn * 4) ≠ 0) = true := by rw [i64w (by omega) (by omega)]; exact decide_eq_true (by omega)
    by_cases hs : t / 4 = sh.toNat
    · have hst := hf0.stays ht4 hs
      have hq4 : (!sn (0 + (lqT f nn ii).toNat)) = true := by rw [ht, Int.toNat_natCast, Nat.zero_add, hsn t ht4]; simp [hs]
      rw [← ht] at hst
      have s1 := hst.1
      have s2 := bne_f hst.2.1
      have hE : lqN f nn sn S (ii + 1) = ldY (lqN f nn sn S ii) (lqT f nn ii) := by
        show lqS (lqN f nn sn S ii) (lqT f nn ii) (sn (lqT f nn ii).toNat) = _
        have : sn (lqT f nn ii).toNat = false := by rw [ht, Int.toNat_natCast, hsn t ht4]; simp [hs]
        rw [this]; rfl
      refine round_norm (s0 := tqlU m f nn sh sn S) (T := fun i => tqlT m f nn sh sn S i) (i := ii) (ii + 1) (tqlb_1 ..) (ob_cons rfl (ob_cons rfl (ob_cons rfl (ob_cons rfl (ob_cons rfl (ob_cons rfl (ob_cons rfl (ob_cons rfl (ob_cons rfl (ob_cons ?_ (ob_cons rfl (ob_cons (Nat.le_refl _) (ob_cons (.inl ⟨rfl, rfl⟩) (ob_cons rfl (ob_cons (Nat.le_refl _) (ob_cons (.inl ⟨rfl, rfl⟩) (ob_cons ?_ (ob_cons ?_ (ob_cons ?_ (ob_cons ?_ (ob_cons ?_ (ob_cons ?_ (ob_cons ?_ (ob_cons ?_ (ob_cons ?_ (ob_cons rfl (ob_cons (Nat.le_refl _) (ob_cons (.inl ⟨rfl, rfl⟩) (ob_cons ?_ (ob_cons ?_ (ob_cons ?_ (ob_cons ?_ (ob_cons rfl (ob_cons ?_ (ob_cons ?_ (ob_cons ?_ (ob_cons ?_ (ob_cons ?_ ob_nil)))))))))))))))))))))))))))))))))))))) (by show ii + 1 ≤ m; omega) (by show m - (ii + 1) < m - ii; omega)
      · exact wrap_nat64 _ (by simp; omega) (by simp; omega)
      · (rw [hE]; done)
      · (rw [hE]; done)
      · (rw [hE]; done)
      · (rw [hE]; done)
      · (rw [hE]; done)
      · (rw [hE]; done)
      · (rw [hE]; done)
      · (rw [hE]; done)
      · (rw [hE]; exact fun _ => rfl)
      · with_reducible assumption
      · with_reducible assumption
      · with_reducible assumption
      · with_reducible assumption
      · with_reducible assumption
      · with_reducible assumption
      · (simp; omega)
      · (simp; omega)
      · with_reducible assumption
    · have hl := hf0.leaves ht4 hs
      have hg1 := hl.g1
      have hq4 : (!sn (0 + (lqT f nn ii).toNat)) = false := by rw [ht, Int.toNat_natCast, Nat.zero_add, hsn t ht4]; simp [hs]
      have hE : lqN f nn sn S (ii + 1) = jdY (jdY (ldY (lqN f nn sn S ii) (lqT f nn ii)) 5) 5 := by
        show lqS (lqN f nn sn S ii) (lqT f nn ii) (sn (lqT f nn ii).toNat) = _
        have : sn (lqT f nn ii).toNat = true := by rw [ht, Int.toNat_natCast, hsn t ht4]; simp [hs]
        rw [this]; rfl
      have hl' : LdOk (lqN f nn sn S ii) (lqT f nn ii) ∧ ldE (lqN f nn sn S ii) (lqT f nn ii) = 0 ∧ JdOk (ldY (lqN f nn sn S ii) (lqT f nn ii)) 5 ∧ jdE (ldY (lqN f nn sn S ii) (lqT f nn ii)) 5 = 0 ∧ jdG (ldY (lqN f nn sn S ii) (lqT f nn ii)) 5 = (lqT f nn ii) ∧ JdOk (jdY (ldY (lqN f nn sn S ii) (lqT f nn ii)) 5) 5 ∧ jdE (jdY (ldY (lqN f nn sn S ii) (lqT f nn ii)) 5) 5 = 5 := by
        rw [ht]; exact ⟨hl.ok, hl.e, hl.ok1, hl.e1, hl.g1, hl.ok2, hl.e2⟩
      obtain ⟨a1, a2, a3, a4, a5, a6, a7⟩ := hl'
      have b2 := bne_f a2
      have b4 := bne_f a4
      have b5 := bne_f a5
      have b7 := bne_f a7
      refine round_norm (s0 := tqlU m f nn sh sn S) (T := fun i => tqlT m f nn sh sn S i) (i := ii) (ii + 1) (tqla_1 ..) (ob_cons rfl (ob_cons rfl (ob_cons rfl (ob_cons rfl (ob_cons rfl (ob_cons rfl (ob_cons rfl (ob_cons rfl (ob_cons rfl (ob_cons ?_ (ob_cons rfl (ob_cons (Nat.le_refl _) (ob_cons (.inl ⟨rfl, rfl⟩) (ob_cons rfl (ob_cons (Nat.le_refl _) (ob_cons (.inl ⟨rfl, rfl⟩) (ob_cons ?_ (ob_cons ?_ (ob_cons ?_ (ob_cons ?_ (ob_cons ?_ (ob_cons ?_ (ob_cons ?_ (ob_cons ?_ (ob_cons ?_ (ob_cons rfl (ob_cons (Nat.le_refl _) (ob_cons (.inl ⟨rfl, rfl⟩) (ob_cons ?_ (ob_cons ?_ (ob_cons ?_ (ob_cons ?_ (ob_cons rfl (ob_cons ?_ (ob_cons rfl (ob_cons ?_ (ob_cons ?_ (ob_cons ?_ (ob_cons ?_ (ob_cons rfl (ob_cons ?_ (ob_cons ?_ (ob_cons ?_ (ob_cons ?_ (ob_cons ?_ ob_nil))))))))))))))))))))))))))))))))))))))))))))) (by show ii + 1 ≤ m; omega) (by show m - (ii + 1) < m - ii; omega)
      · exact wrap_nat64 _ (by simp; omega) (by simp; omega)
      · (rw [hE]; done)
      · (rw [hE]; done)
      · (rw [hE]; done)
      · (rw [hE]; done)
      · (rw [hE]; done)
      · (rw [hE]; done)
      · (rw [hE]; done)
      · (rw [hE]; done)
      · (rw [hE]; exact fun _ => rfl)
      · with_reducible assumption
      · with_reducible assumption
      · with_reducible assumption
      · with_reducible assumption
      · with_reducible assumption
      · with_reducible assumption
      · with_reducible assumption
      · with_reducible assumption
      · with_reducible assumption
      · with_reducible assumption
      · with_reducible assumption
      · (simp; omega)
      · (simp; omega)
      · with_reducible assumption
  · obtain rfl : m = ii := by omega
    refine round_exit (s0 := tqlU m f nn sh sn S) (T := fun i => tqlT m f nn sh sn S i) (i := m) (tqlx_1 ..) (by simp) (ob_cons rfl (ob_cons rfl (ob_cons rfl (ob_cons rfl (ob_cons rfl (ob_cons rfl (ob_cons rfl (ob_cons rfl (ob_cons rfl (ob_cons rfl (ob_cons (Nat.le_refl _) (ob_cons (.inl ⟨rfl, rfl⟩) (ob_cons rfl (ob_cons (Nat.le_refl _) (ob_cons (.inl ⟨rfl, rfl⟩) (ob_cons rfl (ob_cons rfl (ob_cons rfl (ob_cons rfl (ob_cons rfl (ob_cons rfl (ob_cons rfl (ob_cons rfl (ob_cons (fun _ => rfl) (ob_cons rfl (ob_cons (Nat.le_refl _) (ob_cons (.inl ⟨rfl, rfl⟩) (ob_cons ?_ ob_nil))))))))))))))))))))))))))))
    · (simp; done)

end Go.Proofs.YtmndhjodbnojdaaDoor
