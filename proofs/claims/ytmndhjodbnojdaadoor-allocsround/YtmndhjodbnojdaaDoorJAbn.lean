/-
  Begin: its contract.
-/
import Derived.Test.YtmndhjodbnojdaaDoorJAbnDef
set_option linter.unusedSimpArgs false
set_option linter.unusedVariables false
namespace Go.Proofs.YtmndhjodbnojdaaDoor
open Go.Ev
theorem bgn_1 (a : Int) : callB EAb 2000 49 [AV.sym IntKind.i64 a] (bgnH a (tabF tab)) (bgnR a (tabF tab)) [(1, Src.nm 2), (2, Src.nm 1)] [Hint.lp [0, 2, 3, 4, 5] (Ex.exit 0) (aboX a a.toNat).tmps (aboX a a.toNat).hp.heap 3 [2, 1], Hint.b true] =
 some ([(0 : Nat) = 0,
 (0 : Nat) = 0,
 true = true,
 true = true,
 (1 : Nat) ≤ (1 : Nat),
 tabF tab = tabF tab ∧ plainSh (List.map kindOfV tab) = true ∨ ∀ (i : Nat), i < 1 → rowOb (List.map kindOfV tab) 0 (tabF tab i) (tabF tab i),
 (bgN a.toNat).st = (bmX a).st,
 (bgN a.toNat).L.c = (bmX a).L.c,
 (bgN a.toNat).L.k = (bmX a).L.k,
 (bgN a.toNat).L.a = (bmX a).L.a,
 (bgN a.toNat).L.f = (bmX a).L.f,
 (bgN a.toNat).L.w = (bmX a).L.w,
 (bgN a.toNat).L.i = (bmX a).L.i,
 (bgN a.toNat).L.d = (bmX a).L.d,
 ∀ (k : List Int), (bgN a.toNat).M k = (bmX a).M k,
 aboLP a]) := by kernel_rfl
theorem bgn_loc (a : Int) (FT : Nat → Nat → AV) : LocOk Tryd.prog 49 [.sym .i64 a] (bgnH a FT) (bgnR a FT) := by
  refine loc_of_call EAb_ok (fun hp => ?_)
  have hFT : FT = tabF tab := hp _ (List.mem_cons_self ..)
  have h0 : 0 ≤ a := hp _ (List.mem_cons_of_mem _ (List.mem_cons_self ..))
  have h1 : a ≤ 32 := hp _ (List.mem_cons_of_mem _ (List.mem_cons_of_mem _ (List.mem_cons_self ..)))
  clear hp
  subst hFT
  have hlp := abo_lp a h0 h1
  refine ⟨2000, _, _, _, bgn_1 .., (ob_cons rfl (ob_cons rfl (ob_cons rfl (ob_cons rfl (ob_cons (Nat.le_refl _) (ob_cons (.inl ⟨rfl, rfl⟩) (ob_cons ?_ (ob_cons ?_ (ob_cons ?_ (ob_cons ?_ (ob_cons ?_ (ob_cons ?_ (ob_cons ?_ (ob_cons ?_ (ob_cons ?_ (ob_cons ?_ ob_nil))))))))))))))))⟩
  ·
    first | exact hlp | (rw [bmX_eq]; done) | exact fun _ => by rw [bmX_eq] | exact .inl ⟨rfl, rfl⟩ | (simp; done) | rfl
  ·
    first | exact hlp | (rw [bmX_eq]; done) | exact fun _ => by rw [bmX_eq] | exact .inl ⟨rfl, rfl⟩ | (simp; done) | rfl
  ·
    first | exact hlp | (rw [bmX_eq]; done) | exact fun _ => by rw [bmX_eq] | exact .inl ⟨rfl, rfl⟩ | (simp; done) | rfl
  ·
    first | exact hlp | (rw [bmX_eq]; done) | exact fun _ => by rw [bmX_eq] | exact .inl ⟨rfl, rfl⟩ | (simp; done) | rfl
  ·
    first | exact hlp | (rw [bmX_eq]; done) | exact fun _ => by rw [bmX_eq] | exact .inl ⟨rfl, rfl⟩ | (simp; done) | rfl
  ·
    first | exact hlp | (rw [bmX_eq]; done) | exact fun _ => by rw [bmX_eq] | exact .inl ⟨rfl, rfl⟩ | (simp; done) | rfl
  ·
    first | exact hlp | (rw [bmX_eq]; done) | exact fun _ => by rw [bmX_eq] | exact .inl ⟨rfl, rfl⟩ | (simp; done) | rfl
  ·
    first | exact hlp | (rw [bmX_eq]; done) | exact fun _ => by rw [bmX_eq] | exact .inl ⟨rfl, rfl⟩ | (simp; done) | rfl
  ·
    first | exact hlp | (rw [bmX_eq]; done) | exact fun _ => by rw [bmX_eq] | exact .inl ⟨rfl, rfl⟩ | (simp; done) | exact fun _ => rfl
  ·
    first | exact hlp | (rw [bmX_eq]; done) | exact fun _ => by rw [bmX_eq] | exact .inl ⟨rfl, rfl⟩ | (simp; done) | trivial
noncomputable def bgnSpec : LSpec := fun la lh => match la, lh with
  | [.sym .i64 a], [(zt, .arr nt sht rot lent FT)] =>
    match Nat.beq zt (gnm 0) && (Nat.beq nt tab.length && (shBeq sht (tab.map kindOfV) && (rot && Nat.beq lent 1))) with
    | true => some (bgnR a FT)
    | false => none
  | _, _ => none
theorem bgnSpec_ok (la : List AV) (lh : List (Nat × AO)) (R : LR) (h : bgnSpec la lh = some R) : LocOk Tryd.prog 49 la lh R := by
  unfold bgnSpec at h
  split at h
  · rename_i a zt nt sht rot lent FT
    split at h
    · rename_i hb
      simp only [Bool.and_eq_true] at hb
      obtain ⟨t1, t2, t3, t4, t5⟩ := hb
      have t1 := Nat.eq_of_beq_eq_true t1; subst t1
      have t2 := Nat.eq_of_beq_eq_true t2; subst t2
      have t3 := shBeq_eq t3; subst t3
      subst t4
      have t5 := Nat.eq_of_beq_eq_true t5; subst t5
      cases h
      exact bgn_loc a FT
    · cases h
  · cases h

end Go.Proofs.YtmndhjodbnojdaaDoor
