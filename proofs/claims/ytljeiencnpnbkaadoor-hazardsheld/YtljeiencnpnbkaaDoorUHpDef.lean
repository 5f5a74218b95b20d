/-
  UHpDef and what follows it.
-/
import Derived.Test.YtljeiencnpnbkaaDoorUHm
/-
  Hazards: held, a contract: definitions.
-/
set_option linter.unusedSimpArgs false
set_option linter.unusedVariables false
namespace Go.Proofs.YtljeiencnpnbkaaDoor
open Go.Ev

noncomputable def hmpH (m : Nat) (f : Nat → Nat → AV) (e : Int) (FT : Nat → Nat → AV) : List (Nat × AO) := [(gnm 0, .arr tab.length (tab.map kindOfV) true 1 FT), (1, .arr 10 [.int .u64, .int .u64, .int .u64, .int .u64, .int .u64, .int .u64, .int .u64, .int .u64, .int .u64, .int .u64] true m f)]
noncomputable def hmpR (m : Nat) (f : Nat → Nat → AV) (e : Int) (FT : Nat → Nat → AV) : LR := ⟨1, .map 2, [(gnm 0, .arr tab.length (tab.map kindOfV) true 1 FT), (2, .map 102 (hM f m)), (1, .arr 10 [.int .u64, .int .u64, .int .u64, .int .u64, .int .u64, .int .u64, .int .u64, .int .u64, .int .u64, .int .u64] true m f)], 1, [], [FT = tabF tab, m ≤ 300, ∀ i, i < m → ∀ j, 0 ≤ avInt (f (0 + i) j) ∧ avInt (f (0 + i) j) < 18446744073709551616]⟩
end Go.Proofs.YtljeiencnpnbkaaDoor

/-
  Hazards: held, a contract.
-/
set_option linter.unusedSimpArgs false
set_option linter.unusedVariables false
namespace Go.Proofs.YtljeiencnpnbkaaDoor
open Go.Ev
theorem hmp_1 (m : Nat) (f : Nat → Nat → AV) (e : Int) : callB EHm 2000 49 [AV.agg [AV.ss 10 1 0 m none, AV.sym IntKind.u64 e]] (hmpH m f e (tabF tab)) (hmpR m f e (tabF tab)) [(2, Src.nm 3)] [Hint.lp [3, 11, 12, 13] (Ex.exit 0) (hmX m f e m).tmps (hmX m f e m).hp.heap 4 [3], Hint.b true] =
 some ([true = true,
 (1 : Nat) ≤ (1 : Nat),
 tabF tab = tabF tab ∧ plainSh (List.map kindOfV tab) = true ∨ ∀ (i : Nat), i < 1 → rowOb (List.map kindOfV tab) 0 (tabF tab i) (tabF tab i),
 ∀ (k : List Int), hM f m k = hM f m k,
 true = true,
 m ≤ m,
 f = f ∧ plainSh [CK.int IntKind.u64, CK.int IntKind.u64, CK.int IntKind.u64, CK.int IntKind.u64, CK.int IntKind.u64, CK.int IntKind.u64, CK.int IntKind.u64, CK.int IntKind.u64, CK.int IntKind.u64, CK.int IntKind.u64] = true ∨ ∀ (i : Nat), i < m → rowOb [CK.int IntKind.u64, CK.int IntKind.u64, CK.int IntKind.u64, CK.int IntKind.u64, CK.int IntKind.u64, CK.int IntKind.u64, CK.int IntKind.u64, CK.int IntKind.u64, CK.int IntKind.u64, CK.int IntKind.u64] 0 (f i) (f i),
 hmLP m f e]) := by kernel_rfl
theorem hmp_loc (m : Nat) (f : Nat → Nat → AV) (e : Int) (FT : Nat → Nat → AV) : LocOk Tryd.prog 49 [.agg [.ss 10 1 0 m none, .sym .u64 e]] (hmpH m f e FT) (hmpR m f e FT) := by
  refine loc_of_call EHm_ok (fun hp => ?_)
  have hFT : FT = tabF tab := hp _ (List.mem_cons_self ..)
  have hm : m ≤ 300 := hp _ (List.mem_cons_of_mem _ (List.mem_cons_self ..))
  have hf : ∀ i, i < m → ∀ j, 0 ≤ avInt (f (0 + i) j) ∧ avInt (f (0 + i) j) < 18446744073709551616 := hp _ (List.mem_cons_of_mem _ (List.mem_cons_of_mem _ (List.mem_cons_self ..)))
  clear hp
  subst hFT
  have hlp := hm_lp m f e (by omega) hf
  refine ⟨2000, _, _, _, hmp_1 .., (ob_cons rfl (ob_cons (Nat.le_refl _) (ob_cons (.inl ⟨rfl, rfl⟩) (ob_cons (fun _ => rfl) (ob_cons rfl (ob_cons (Nat.le_refl _) (ob_cons (.inl ⟨rfl, rfl⟩) (ob_cons ?_ ob_nil))))))))⟩
  ·
    first | with_reducible assumption | exact hlp | exact rfl | exact fun _ => rfl | exact .inl ⟨rfl, rfl⟩ | exact tabIs_self _ | exact hm | exact hf | exact hrm | (simp; done) | (simp; omega) | omega | trivial
noncomputable def hmpSpec : LSpec := fun la lh => match la, lh with
  | [.agg [.ss z1 z2 z3 m none, .sym .u64 e]], [(zt, .arr nt sht rot lent FT), (z4, .arr z5 [.int .u64, .int .u64, .int .u64, .int .u64, .int .u64, .int .u64, .int .u64, .int .u64, .int .u64, .int .u64] true m2 f)] =>
    match (Nat.beq zt (gnm 0) && (Nat.beq nt tab.length && (shBeq sht (tab.map kindOfV) && (rot && Nat.beq lent 1)))) && (Nat.beq z1 10 && (Nat.beq z2 1 && (Nat.beq z3 0 && (Nat.beq z4 1 && (Nat.beq z5 10))))) with
    | true => some (ob1 (m = m2) (hmpR m f e FT))
    | false => none
  | _, _ => none
theorem hmpSpec_ok (la : List AV) (lh : List (Nat × AO)) (R : LR) (h : hmpSpec la lh = some R) : LocOk Tryd.prog 49 la lh R := by
  unfold hmpSpec at h
  split at h
  · rename_i z1 z2 z3 m e zt nt sht rot lent FT z4 z5 m2 f
    split at h
    · rename_i hb
      simp only [Bool.and_eq_true] at hb
      obtain ⟨⟨t1, t2, t3, t4, t5⟩, e1, e2, e3, e4, e5⟩ := hb
      have t1 := Nat.eq_of_beq_eq_true t1; subst t1
      have t2 := Nat.eq_of_beq_eq_true t2; subst t2
      have t3 := shBeq_eq t3; subst t3
      subst t4
      have t5 := Nat.eq_of_beq_eq_true t5; subst t5
      have e1 := Nat.eq_of_beq_eq_true e1; subst e1
      have e2 := Nat.eq_of_beq_eq_true e2; subst e2
      have e3 := Nat.eq_of_beq_eq_true e3; subst e3
      have e4 := Nat.eq_of_beq_eq_true e4; subst e4
      have e5 := Nat.eq_of_beq_eq_true e5; subst e5
      cases h
      exact loc_ob1 (fun q => by subst q; exact hmp_loc m f e FT)
    · cases h
  · cases h

end Go.Proofs.YtljeiencnpnbkaaDoor
