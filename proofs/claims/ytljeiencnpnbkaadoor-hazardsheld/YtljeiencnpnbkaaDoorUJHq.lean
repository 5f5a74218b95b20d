/-
  Hazards: Held, May: contracts.
-/
import Derived.Test.YtljeiencnpnbkaaDoorUJHqDef0
set_option linter.unusedSimpArgs false
set_option linter.unusedVariables false
namespace Go.Proofs.YtljeiencnpnbkaaDoor.J
open Go.Ev
theorem hld_1 (m : Nat) (f : Nat → Nat → AV) (e : Int) : callB EHl 2000 10 [AV.agg [AV.ss 10 1 0 m (some m), AV.sym IntKind.u64 e]] (hldH m f e (tabF tab)) (hldR m f e (tabF tab)) [(2, Src.nm 5)] [] =
 some ([(0 : Nat) = 0,
 (hlF (hM f m)).length - 0 = (hlF (hM f m)).length,
 lessC (some (hlF (hM f m)).length) 0 = some (hlF (hM f m)).length,
 true = true,
 (1 : Nat) ≤ (1 : Nat),
 tabF tab = tabF tab ∧ plainSh (List.map kindOfV tab) = true ∨ ∀ (i : Nat), i < 1 → rowOb (List.map kindOfV tab) 0 (tabF tab i) (tabF tab i),
 false = false,
 (hlF (hM f m)).length ≤ (hlF (hM f m)).length,
 rfF (hlF (hM f m)) = rfF (hlF (hM f m)) ∧ plainSh rSh = true ∨ ∀ (i : Nat), i < (hlF (hM f m)).length → rowOb rSh 0 (rfF (hlF (hM f m)) i) (rfF (hlF (hM f m)) i),
 false = false,
 m ≤ m,
 f = f ∧ plainSh [CK.int IntKind.u64, CK.int IntKind.u64, CK.int IntKind.u64, CK.int IntKind.u64, CK.int IntKind.u64, CK.int IntKind.u64, CK.int IntKind.u64, CK.int IntKind.u64, CK.int IntKind.u64, CK.int IntKind.u64] = true ∨ ∀ (i : Nat), i < m → rowOb [CK.int IntKind.u64, CK.int IntKind.u64, CK.int IntKind.u64, CK.int IntKind.u64, CK.int IntKind.u64, CK.int IntKind.u64, CK.int IntKind.u64, CK.int IntKind.u64, CK.int IntKind.u64, CK.int IntKind.u64] 0 (f i) (f i),
 (Nat.blt 0 (capOr (some (hlF (hM f m)).length) (hlF (hM f m)).length) || Nat.beq 0 0) = true,
 ((hlF (hM f m)).length.ble (capOr (some (hlF (hM f m)).length) (hlF (hM f m)).length) && decide (0 ≤ Int.ofNat (hlF (hM f m)).length)) = true,
 ((hlF (hM f m)).length.ble (capOr none (hlF (hM f m)).length) && decide (0 ≤ Int.ofNat (hlF (hM f m)).length)) = true,
 RefM (hM f m) 1000000,
 m = m,
 m = m,
 tabF tab = tabF tab,
 m ≤ 300,
 ∀ (i : Nat), i < m → ∀ (j : Nat), 0 ≤ avInt (f (0 + i) j) ∧ avInt (f (0 + i) j) < 18446744073709551616]) := by kernel_rfl
theorem hld_loc (m : Nat) (f : Nat → Nat → AV) (e : Int) (FT : Nat → Nat → AV) : LocOk Tryd.prog 10 [.agg [.ss 10 1 0 m (some m), .sym .u64 e]] (hldH m f e FT) (hldR m f e FT) := by
  refine loc_of_call EHl_ok (fun hp => ?_)
  have hFT : FT = tabF tab := hp _ (List.mem_cons_self ..)
  have hm : m ≤ 300 := hp _ (List.mem_cons_of_mem _ (List.mem_cons_self ..))
  have hf : ∀ i, i < m → ∀ j, 0 ≤ avInt (f (0 + i) j) ∧ avInt (f (0 + i) j) < 18446744073709551616 := hp _ (List.mem_cons_of_mem _ (List.mem_cons_of_mem _ (List.mem_cons_self ..)))
  clear hp
  subst hFT
  have hrm := (hM_i f m hm).refM (by omega)
  refine ⟨2000, _, _, _, hld_1 .., (ob_cons rfl (ob_cons ?_ (ob_cons ?_ (ob_cons rfl (ob_cons (Nat.le_refl _) (ob_cons (.inl ⟨rfl, rfl⟩) (ob_cons rfl (ob_cons (Nat.le_refl _) (ob_cons (.inl ⟨rfl, rfl⟩) (ob_cons rfl (ob_cons (Nat.le_refl _) (ob_cons (.inl ⟨rfl, rfl⟩) (ob_cons ?_ (ob_cons ?_ (ob_cons ?_ (ob_cons ?_ (ob_cons rfl (ob_cons rfl (ob_cons rfl (ob_cons ?_ (ob_cons ?_ ob_nil)))))))))))))))))))))⟩
  ·
    first | with_reducible assumption | exact hlp | exact rfl | (simp [capOr]; done) | (simp [capOr, Nat.blt_eq]; done) | exact fun _ => rfl | exact .inl ⟨rfl, rfl⟩ | exact tabIs_self _ | exact hm | exact hf | exact hrm | (simp; done) | (simp; omega) | omega | rfl
  ·
    first | with_reducible assumption | exact hlp | exact rfl | (simp [capOr]; done) | (simp [capOr, Nat.blt_eq]; done) | exact fun _ => rfl | exact .inl ⟨rfl, rfl⟩ | exact tabIs_self _ | exact hm | exact hf | exact hrm | (simp; done) | (simp; omega) | omega | rfl
  ·
    first | with_reducible assumption | exact hlp | exact rfl | (simp [capOr]; done) | (simp [capOr, Nat.blt_eq]; done) | exact fun _ => rfl | exact .inl ⟨rfl, rfl⟩ | exact tabIs_self _ | exact hm | exact hf | exact hrm | (simp; done) | (simp; omega) | omega | (apply Nat.ble_eq_true_of_le; omega) | (simp [Nat.blt_eq]; omega)
  ·
    first | with_reducible assumption | exact hlp | exact rfl | (simp [capOr]; done) | (simp [capOr, Nat.blt_eq]; done) | exact fun _ => rfl | exact .inl ⟨rfl, rfl⟩ | exact tabIs_self _ | exact hm | exact hf | exact hrm | (simp; done) | (simp; omega) | omega | (apply Nat.ble_eq_true_of_le; omega) | (simp [Nat.blt_eq]; omega)
  ·
    first | with_reducible assumption | exact hlp | exact rfl | (simp [capOr]; done) | (simp [capOr, Nat.blt_eq]; done) | exact fun _ => rfl | exact .inl ⟨rfl, rfl⟩ | exact tabIs_self _ | exact hm | exact hf | exact hrm | (simp; done) | (simp; omega) | omega | (apply Nat.ble_eq_true_of_le; omega) | (simp [Nat.blt_eq]; omega)
  ·
    first | with_reducible assumption | exact hlp | exact rfl | (simp [capOr]; done) | (simp [capOr, Nat.blt_eq]; done) | exact fun _ => rfl | exact .inl ⟨rfl, rfl⟩ | exact tabIs_self _ | exact hm | exact hf | exact hrm | (simp; done) | (simp; omega) | omega | trivial
  ·
    first | with_reducible assumption | exact hlp | exact rfl | (simp [capOr]; done) | (simp [capOr, Nat.blt_eq]; done) | exact fun _ => rfl | exact .inl ⟨rfl, rfl⟩ | exact tabIs_self _ | exact hm | exact hf | exact hrm | (simp; done) | (simp; omega) | omega | exact Nat.le_refl _ | omega
  ·
    first | with_reducible assumption | exact hlp | exact rfl | (simp [capOr]; done) | (simp [capOr, Nat.blt_eq]; done) | exact fun _ => rfl | exact .inl ⟨rfl, rfl⟩ | exact tabIs_self _ | exact hm | exact hf | exact hrm | (simp; done) | (simp; omega) | omega | exact fun _ => rfl
noncomputable def hldSpec : LSpec := fun la lh => match la, lh with
  | [.agg [.ss z1 z2 z3 m (some m3), .sym .u64 e]], [(zt, .arr nt sht rot lent FT), (z4, .arr z5 [.int .u64, .int .u64, .int .u64, .int .u64, .int .u64, .int .u64, .int .u64, .int .u64, .int .u64, .int .u64] false m2 f)] =>
    match (Nat.beq zt (gnm 0) && (Nat.beq nt tab.length && (shBeq sht (tab.map kindOfV) && (rot && Nat.beq lent 1)))) && (Nat.beq z1 10 && (Nat.beq z2 1 && (Nat.beq z3 0 && (Nat.beq z4 1 && (Nat.beq z5 10))))) with
    | true => some (ob1 (m = m2) (ob1 (m = m3) (hldR m f e FT)))
    | false => none
  | _, _ => none
theorem hldSpec_ok (la : List AV) (lh : List (Nat × AO)) (R : LR) (h : hldSpec la lh = some R) : LocOk Tryd.prog 10 la lh R := by
  unfold hldSpec at h
  split at h
  · rename_i z1 z2 z3 m m3 e zt nt sht rot lent FT z4 z5 m2 f
    split at h
    · rename_i hb
      simp only [Bool.and_eq_true] at hb
      obtain ⟨⟨t1, t2, t3, t4, t5⟩, e1, e2, e3, e4, e5⟩ := hb
      have t1 := Nat.eq_of_beq_eq_true t1; subst t1
      have t2 := Nat.eq_of_beq_eq_true t2; subst t2
      have t3 := shBeq_eq t3; subst t3
      subst t4
      have t5 := Nat.eq_of_beq_eq_true t5; subst t5
      have e1 := Nat.eq_of_beq_eq_true e1; subst e1
      have e2 := Nat.eq_of_beq_eq_true e2; subst e2
      have e3 := Nat.eq_of_beq_eq_true e3; subst e3
      have e4 := Nat.eq_of_beq_eq_true e4; subst e4
      have e5 := Nat.eq_of_beq_eq_true e5; subst e5
      cases h
      exact loc_ob1 (fun q => loc_ob1 (fun q2 => by subst q; subst q2; exact hld_loc m f e FT))
    · cases h
  · cases h

theorem mah_1 (a : Int) (b : Int) (c : Bool) (x : Int) (y : Int) (z : Int) (m : Nat) (f : Nat → Nat → AV) (e : Int) : callB EHl 2000 13 [AV.agg [AV.sym IntKind.i64 a, AV.sym IntKind.u32 b, AV.symb c, AV.sym IntKind.u64 x, AV.sym IntKind.u64 y, AV.sym IntKind.u64 z], AV.agg [AV.ss 10 1 0 m (some m), AV.sym IntKind.u64 e]] (mahH a b c x y z m f e (tabF tab)) (mahR a b c x y z m f e (tabF tab)) [] [] =
 some ([(mget (hM f m) [a, b, 0] == 0) = (mget (hM f m) [a, b, 0] == 0),
 true = true,
 (1 : Nat) ≤ (1 : Nat),
 tabF tab = tabF tab ∧ plainSh (List.map kindOfV tab) = true ∨ ∀ (i : Nat), i < 1 → rowOb (List.map kindOfV tab) 0 (tabF tab i) (tabF tab i),
 false = false,
 m ≤ m,
 f = f ∧ plainSh [CK.int IntKind.u64, CK.int IntKind.u64, CK.int IntKind.u64, CK.int IntKind.u64, CK.int IntKind.u64, CK.int IntKind.u64, CK.int IntKind.u64, CK.int IntKind.u64, CK.int IntKind.u64, CK.int IntKind.u64] = true ∨ ∀ (i : Nat), i < m → rowOb [CK.int IntKind.u64, CK.int IntKind.u64, CK.int IntKind.u64, CK.int IntKind.u64, CK.int IntKind.u64, CK.int IntKind.u64, CK.int IntKind.u64, CK.int IntKind.u64, CK.int IntKind.u64, CK.int IntKind.u64] 0 (f i) (f i),
 m = m,
 m = m,
 tabF tab = tabF tab,
 m ≤ 300,
 ∀ (i : Nat), i < m → ∀ (j : Nat), 0 ≤ avInt (f (0 + i) j) ∧ avInt (f (0 + i) j) < 18446744073709551616]) := by kernel_rfl
theorem mah_loc (a : Int) (b : Int) (c : Bool) (x : Int) (y : Int) (z : Int) (m : Nat) (f : Nat → Nat → AV) (e : Int) (FT : Nat → Nat → AV) : LocOk Tryd.prog 13 [.agg [.sym .i64 a, .sym .u32 b, .symb c, .sym .u64 x, .sym .u64 y, .sym .u64 z], .agg [.ss 10 1 0 m (some m), .sym .u64 e]] (mahH a b c x y z m f e FT) (mahR a b c x y z m f e FT) := by
  refine loc_of_call EHl_ok (fun hp => ?_)
  have hFT : FT = tabF tab := hp _ (List.mem_cons_self ..)
  have hm : m ≤ 300 := hp _ (List.mem_cons_of_mem _ (List.mem_cons_self ..))
  have hf : ∀ i, i < m → ∀ j, 0 ≤ avInt (f (0 + i) j) ∧ avInt (f (0 + i) j) < 18446744073709551616 := hp _ (List.mem_cons_of_mem _ (List.mem_cons_of_mem _ (List.mem_cons_self ..)))
  clear hp
  subst hFT
  refine ⟨2000, _, _, _, mah_1 .., (ob_cons rfl (ob_cons rfl (ob_cons (Nat.le_refl _) (ob_cons (.inl ⟨rfl, rfl⟩) (ob_cons rfl (ob_cons (Nat.le_refl _) (ob_cons (.inl ⟨rfl, rfl⟩) (ob_cons rfl (ob_cons rfl (ob_cons rfl (ob_cons ?_ (ob_cons ?_ ob_nil))))))))))))⟩
  ·
    first | with_reducible assumption | exact hlp | exact rfl | (simp [capOr]; done) | (simp [capOr, Nat.blt_eq]; done) | exact fun _ => rfl | exact .inl ⟨rfl, rfl⟩ | exact tabIs_self _ | exact hm | exact hf | exact hrm | (simp; done) | (simp; omega) | omega | exact Nat.le_refl _ | omega
  ·
    first | with_reducible assumption | exact hlp | exact rfl | (simp [capOr]; done) | (simp [capOr, Nat.blt_eq]; done) | exact fun _ => rfl | exact .inl ⟨rfl, rfl⟩ | exact tabIs_self _ | exact hm | exact hf | exact hrm | (simp; done) | (simp; omega) | omega | exact fun _ => rfl
noncomputable def mahSpec : LSpec := fun la lh => match la, lh with
  | [.agg [.sym .i64 a, .sym .u32 b, .symb c, .sym .u64 x, .sym .u64 y, .sym .u64 z], .agg [.ss z1 z2 z3 m (some m3), .sym .u64 e]], [(zt, .arr nt sht rot lent FT), (z4, .arr z5 [.int .u64, .int .u64, .int .u64, .int .u64, .int .u64, .int .u64, .int .u64, .int .u64, .int .u64, .int .u64] false m2 f)] =>
    match (Nat.beq zt (gnm 0) && (Nat.beq nt tab.length && (shBeq sht (tab.map kindOfV) && (rot && Nat.beq lent 1)))) && (Nat.beq z1 10 && (Nat.beq z2 1 && (Nat.beq z3 0 && (Nat.beq z4 1 && (Nat.beq z5 10))))) with
    | true => some (ob1 (m = m2) (ob1 (m = m3) (mahR a b c x y z m f e FT)))
    | false => none
  | _, _ => none
theorem mahSpec_ok (la : List AV) (lh : List (Nat × AO)) (R : LR) (h : mahSpec la lh = some R) : LocOk Tryd.prog 13 la lh R := by
  unfold mahSpec at h
  split at h
  · rename_i a b c x y z z1 z2 z3 m m3 e zt nt sht rot lent FT z4 z5 m2 f
    split at h
    · rename_i hb
      simp only [Bool.and_eq_true] at hb
      obtain ⟨⟨t1, t2, t3, t4, t5⟩, e1, e2, e3, e4, e5⟩ := hb
      have t1 := Nat.eq_of_beq_eq_true t1; subst t1
      have t2 := Nat.eq_of_beq_eq_true t2; subst t2
      have t3 := shBeq_eq t3; subst t3
      subst t4
      have t5 := Nat.eq_of_beq_eq_true t5; subst t5
      have e1 := Nat.eq_of_beq_eq_true e1; subst e1
      have e2 := Nat.eq_of_beq_eq_true e2; subst e2
      have e3 := Nat.eq_of_beq_eq_true e3; subst e3
      have e4 := Nat.eq_of_beq_eq_true e4; subst e4
      have e5 := Nat.eq_of_beq_eq_true e5; subst e5
      cases h
      exact loc_ob1 (fun q => loc_ob1 (fun q2 => by subst q; subst q2; exact mah_loc a b c x y z m f e FT))
    · cases h
  · cases h

end Go.Proofs.YtljeiencnpnbkaaDoor.J
