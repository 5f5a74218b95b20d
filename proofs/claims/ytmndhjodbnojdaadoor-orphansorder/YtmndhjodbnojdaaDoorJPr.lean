/-
  given: its contract.
-/
import Derived.Test.YtmndhjodbnojdaaDoorJPrDef
set_option linter.unusedSimpArgs false
set_option linter.unusedVariables false
namespace Go.Proofs.YtmndhjodbnojdaaDoor
open Go.Ev
theorem gnc_1 (n l : Nat) (r : Bool) (f : Nat → Nat → AV) (c : Option Nat) (t : Int) (S : MS) : callB EGv 2000 41 [AV.ptr 1 0 0, AV.ss 6 3 0 n c, AV.sym IntKind.i64 t] (gncH n l r f c t S (tabF tab)) (gncR n l r f c t S (tabF tab)) [] [Hint.lp [0, 2, 6, 7, 8] (Ex.exit 0) (gnlX n l r f t S (n + 1)).tmps (gnlX n l r f t S (n + 1)).hp.heap 6 [4, 1, 2], Hint.b true] =
 some ([decide ((gvX n (kOf (nF (yK f))) (gvIt n (yK f) S (n + 1)).S (gvIt n (yK f) S (n + 1)).o).ln = 0) = gvnB n (yK f) S,
 true = true,
 (1 : Nat) ≤ (1 : Nat),
 tabF tab = tabF tab ∧ plainSh (List.map kindOfV tab) = true ∨ ∀ (i : Nat), i < 1 → rowOb (List.map kindOfV tab) 0 (tabF tab i) (tabF tab i),
 (gvY n (kOf (nF (yK f))) (gvIt n (yK f) S (n + 1)).S (gvIt n (yK f) S (n + 1)).o).st = (gvnY n (yK f) S).st,
 (gvY n (kOf (nF (yK f))) (gvIt n (yK f) S (n + 1)).S (gvIt n (yK f) S (n + 1)).o).L.c = (gvnY n (yK f) S).L.c,
 (gvY n (kOf (nF (yK f))) (gvIt n (yK f) S (n + 1)).S (gvIt n (yK f) S (n + 1)).o).L.k = (gvnY n (yK f) S).L.k,
 (gvY n (kOf (nF (yK f))) (gvIt n (yK f) S (n + 1)).S (gvIt n (yK f) S (n + 1)).o).L.a = (gvnY n (yK f) S).L.a,
 (gvY n (kOf (nF (yK f))) (gvIt n (yK f) S (n + 1)).S (gvIt n (yK f) S (n + 1)).o).L.f = (gvnY n (yK f) S).L.f,
 (gvY n (kOf (nF (yK f))) (gvIt n (yK f) S (n + 1)).S (gvIt n (yK f) S (n + 1)).o).L.w = (gvnY n (yK f) S).L.w,
 (gvY n (kOf (nF (yK f))) (gvIt n (yK f) S (n + 1)).S (gvIt n (yK f) S (n + 1)).o).L.i = (gvnY n (yK f) S).L.i,
 (gvY n (kOf (nF (yK f))) (gvIt n (yK f) S (n + 1)).S (gvIt n (yK f) S (n + 1)).o).L.d = (gvnY n (yK f) S).L.d,
 ∀ (k : List Int), (gvY n (kOf (nF (yK f))) (gvIt n (yK f) S (n + 1)).S (gvIt n (yK f) S (n + 1)).o).M k = (gvnY n (yK f) S).M k,
 r = r,
 l ≤ l,
 f = f ∧ plainSh [CK.int IntKind.i64, CK.int IntKind.u32, CK.bool, CK.int IntKind.u64, CK.int IntKind.u64, CK.int IntKind.u64] = true ∨ ∀ (i : Nat), i < l → rowOb [CK.int IntKind.i64, CK.int IntKind.u32, CK.bool, CK.int IntKind.u64, CK.int IntKind.u64, CK.int IntKind.u64] 0 (f i) (f i),
 tabF tab = tabF tab,
 U64 (gvIt n (yK f) S (n + 1)).S,
 GLn n (gvIt n (yK f) S (n + 1)).o.ln (gvIt n (yK f) S (n + 1)).o.at_,
 n ≤ n,
 R64 (gvIt n (yK f) S (n + 1)).o.h,
 n ≤ 1000000,
 gnlLP n l r f t S,
 n ≤ l,
 GvMay n f]) := by kernel_rfl
theorem gnc_loc (n l : Nat) (r : Bool) (f : Nat → Nat → AV) (c : Option Nat) (t : Int) (S : MS) (FT : Nat → Nat → AV) : LocOk Tryd.prog 41 [.ptr 1 0 0, .ss 6 3 0 n c, .sym .i64 t] (gncH n l r f c t S FT) (gncR n l r f c t S FT) := by
  refine loc_of_call EGv_ok (fun hp => ?_)
  have hFT : FT = tabF tab := hp _ (List.mem_cons_self ..)
  have hl : n ≤ l := hp _ (List.mem_cons_of_mem _ (List.mem_cons_self ..))
  have hu : U64 S := hp _ (List.mem_cons_of_mem _ (List.mem_cons_of_mem _ (List.mem_cons_self ..)))
  have hv : GvMay n f := hp _ (List.mem_cons_of_mem _ (List.mem_cons_of_mem _ (List.mem_cons_of_mem _ (List.mem_cons_self ..))))
  have ht : t = Int.ofNat n + 2 := hp _ (List.mem_cons_of_mem _ (List.mem_cons_of_mem _ (List.mem_cons_of_mem _ (List.mem_cons_of_mem _ (List.mem_cons_self ..)))))
  have hno : GvNo n (yK f) S := hp _ (List.mem_cons_of_mem _ (List.mem_cons_of_mem _ (List.mem_cons_of_mem _ (List.mem_cons_of_mem _ (List.mem_cons_of_mem _ (List.mem_cons_self ..))))))
  clear hp
  subst hFT
  have hlp := gnl_lp n l r f t S hu hv ht hno
  have hit := gvIt_ok (K := yK f) hu hv.n0 hv.n1 (n + 1)
  refine ⟨2000, _, _, _, gnc_1 .., (ob_cons ?_ (ob_cons rfl (ob_cons (Nat.le_refl _) (ob_cons (.inl ⟨rfl, rfl⟩) (ob_cons ?_ (ob_cons ?_ (ob_cons ?_ (ob_cons ?_ (ob_cons ?_ (ob_cons ?_ (ob_cons ?_ (ob_cons ?_ (ob_cons ?_ (ob_cons rfl (ob_cons (Nat.le_refl _) (ob_cons (.inl ⟨rfl, rfl⟩) (ob_cons rfl (ob_cons ?_ (ob_cons ?_ (ob_cons (Nat.le_refl _) (ob_cons ?_ (ob_cons ?_ (ob_cons ?_ (ob_cons ?_ (ob_cons ?_ ob_nil)))))))))))))))))))))))))⟩
  ·
    first | exact hlp | exact hl | exact hv | exact hit.1 | exact hit.2.l | exact hit.2.h | exact hv.n1 | (rw [gvnB_eq]; rfl) | (rw [gvnY_eq]; rfl) | (rw [gvnY_eq]; exact fun _ => rfl) | exact rfl | exact .inl ⟨rfl, rfl⟩ | (simp; done) | rfl
  ·
    first | exact hlp | exact hl | exact hv | exact hit.1 | exact hit.2.l | exact hit.2.h | exact hv.n1 | (rw [gvnB_eq]; rfl) | (rw [gvnY_eq]; rfl) | (rw [gvnY_eq]; exact fun _ => rfl) | exact rfl | exact .inl ⟨rfl, rfl⟩ | (simp; done) | rfl
  ·
    first | exact hlp | exact hl | exact hv | exact hit.1 | exact hit.2.l | exact hit.2.h | exact hv.n1 | (rw [gvnB_eq]; rfl) | (rw [gvnY_eq]; rfl) | (rw [gvnY_eq]; exact fun _ => rfl) | exact rfl | exact .inl ⟨rfl, rfl⟩ | (simp; done) | rfl
  ·
    first | exact hlp | exact hl | exact hv | exact hit.1 | exact hit.2.l | exact hit.2.h | exact hv.n1 | (rw [gvnB_eq]; rfl) | (rw [gvnY_eq]; rfl) | (rw [gvnY_eq]; exact fun _ => rfl) | exact rfl | exact .inl ⟨rfl, rfl⟩ | (simp; done) | rfl
  ·
    first | exact hlp | exact hl | exact hv | exact hit.1 | exact hit.2.l | exact hit.2.h | exact hv.n1 | (rw [gvnB_eq]; rfl) | (rw [gvnY_eq]; rfl) | (rw [gvnY_eq]; exact fun _ => rfl) | exact rfl | exact .inl ⟨rfl, rfl⟩ | (simp; done) | rfl
  ·
    first | exact hlp | exact hl | exact hv | exact hit.1 | exact hit.2.l | exact hit.2.h | exact hv.n1 | (rw [gvnB_eq]; rfl) | (rw [gvnY_eq]; rfl) | (rw [gvnY_eq]; exact fun _ => rfl) | exact rfl | exact .inl ⟨rfl, rfl⟩ | (simp; done) | rfl
  ·
    first | exact hlp | exact hl | exact hv | exact hit.1 | exact hit.2.l | exact hit.2.h | exact hv.n1 | (rw [gvnB_eq]; rfl) | (rw [gvnY_eq]; rfl) | (rw [gvnY_eq]; exact fun _ => rfl) | exact rfl | exact .inl ⟨rfl, rfl⟩ | (simp; done) | rfl
  ·
    first | exact hlp | exact hl | exact hv | exact hit.1 | exact hit.2.l | exact hit.2.h | exact hv.n1 | (rw [gvnB_eq]; rfl) | (rw [gvnY_eq]; rfl) | (rw [gvnY_eq]; exact fun _ => rfl) | exact rfl | exact .inl ⟨rfl, rfl⟩ | (simp; done) | rfl
  ·
    first | exact hlp | exact hl | exact hv | exact hit.1 | exact hit.2.l | exact hit.2.h | exact hv.n1 | (rw [gvnB_eq]; rfl) | (rw [gvnY_eq]; rfl) | (rw [gvnY_eq]; exact fun _ => rfl) | exact rfl | exact .inl ⟨rfl, rfl⟩ | (simp; done) | rfl
  ·
    first | exact hlp | exact hl | exact hv | exact hit.1 | exact hit.2.l | exact hit.2.h | exact hv.n1 | (rw [gvnB_eq]; rfl) | (rw [gvnY_eq]; rfl) | (rw [gvnY_eq]; exact fun _ => rfl) | exact rfl | exact .inl ⟨rfl, rfl⟩ | (simp; done) | exact fun _ => rfl
  ·
    first | exact hlp | exact hl | exact hv | exact hit.1 | exact hit.2.l | exact hit.2.h | exact hv.n1 | (rw [gvnB_eq]; rfl) | (rw [gvnY_eq]; rfl) | (rw [gvnY_eq]; exact fun _ => rfl) | exact rfl | exact .inl ⟨rfl, rfl⟩ | (simp; done) | trivial
  ·
    first | exact hlp | exact hl | exact hv | exact hit.1 | exact hit.2.l | exact hit.2.h | exact hv.n1 | (rw [gvnB_eq]; rfl) | (rw [gvnY_eq]; rfl) | (rw [gvnY_eq]; exact fun _ => rfl) | exact rfl | exact .inl ⟨rfl, rfl⟩ | (simp; done) | trivial
  ·
    first | exact hlp | exact hl | exact hv | exact hit.1 | exact hit.2.l | exact hit.2.h | exact hv.n1 | (rw [gvnB_eq]; rfl) | (rw [gvnY_eq]; rfl) | (rw [gvnY_eq]; exact fun _ => rfl) | exact rfl | exact .inl ⟨rfl, rfl⟩ | (simp; done) | trivial
  ·
    first | exact hlp | exact hl | exact hv | exact hit.1 | exact hit.2.l | exact hit.2.h | exact hv.n1 | (rw [gvnB_eq]; rfl) | (rw [gvnY_eq]; rfl) | (rw [gvnY_eq]; exact fun _ => rfl) | exact rfl | exact .inl ⟨rfl, rfl⟩ | (simp; done) | exact Nat.le_refl _ | omega
  ·
    first | exact hlp | exact hl | exact hv | exact hit.1 | exact hit.2.l | exact hit.2.h | exact hv.n1 | (rw [gvnB_eq]; rfl) | (rw [gvnY_eq]; rfl) | (rw [gvnY_eq]; exact fun _ => rfl) | exact rfl | exact .inl ⟨rfl, rfl⟩ | (simp; done) | trivial
  ·
    first | exact hlp | exact hl | exact hv | exact hit.1 | exact hit.2.l | exact hit.2.h | exact hv.n1 | (rw [gvnB_eq]; rfl) | (rw [gvnY_eq]; rfl) | (rw [gvnY_eq]; exact fun _ => rfl) | exact rfl | exact .inl ⟨rfl, rfl⟩ | (simp; done) | exact Nat.le_refl _ | omega
  ·
    first | exact hlp | exact hl | exact hv | exact hit.1 | exact hit.2.l | exact hit.2.h | exact hv.n1 | (rw [gvnB_eq]; rfl) | (rw [gvnY_eq]; rfl) | (rw [gvnY_eq]; exact fun _ => rfl) | exact rfl | exact .inl ⟨rfl, rfl⟩ | (simp; done) | trivial
noncomputable def gncSpec : LSpec := fun la lh => match la, lh with
  | [.ptr z1 z2 z3, .ss z4 z5 z6 n c, .sym .i64 t], [(zt, .arr nt sht rot lent FT), (z7, .cells z8 [.map z9, .sym .i64 st, .sym .u8 c0, .sym .u8 k0, .sym .i64 a0, .sym .i64 f0, .sym .u64 w0, .sym .u64 i0, .symb d0]), (z10, .map z11 M), (z12, .arr z13 z14 r l f)] =>
    match (Nat.beq zt (gnm 0) && (Nat.beq nt tab.length && (shBeq sht (tab.map kindOfV) && (rot && Nat.beq lent 1)))) && (Nat.beq z1 1 && (Nat.beq z2 0 && (Nat.beq z3 0 && (Nat.beq z4 6 && (Nat.beq z5 3 && (Nat.beq z6 0 && (Nat.beq z7 1 && (Nat.beq z8 9 && (Nat.beq z9 2 && (Nat.beq z10 2 && (Nat.beq z11 115 && (Nat.beq z12 3 && (Nat.beq z13 6 && (shBeq z14 ySh)))))))))))))) with
    | true => some (gncR n l r f c t ⟨M, st, ⟨c0, k0, a0, f0, w0, i0, d0⟩⟩ FT)
    | false => none
  | _, _ => none
theorem gncSpec_ok (la : List AV) (lh : List (Nat × AO)) (R : LR) (h : gncSpec la lh = some R) : LocOk Tryd.prog 41 la lh R := by
  unfold gncSpec at h
  split at h
  · rename_i z1 z2 z3 z4 z5 z6 n c t zt nt sht rot lent FT z7 z8 z9 st c0 k0 a0 f0 w0 i0 d0 z10 z11 M z12 z13 z14 r l f
    split at h
    · rename_i hb
      simp only [Bool.and_eq_true] at hb
      obtain ⟨⟨t1, t2, t3, t4, t5⟩, e1, e2, e3, e4, e5, e6, e7, e8, e9, e10, e11, e12, e13, e14⟩ := hb
      have t1 := Nat.eq_of_beq_eq_true t1; subst t1
      have t2 := Nat.eq_of_beq_eq_true t2; subst t2
      have t3 := shBeq_eq t3; subst t3
      subst t4
      have t5 := Nat.eq_of_beq_eq_true t5; subst t5
      have e1 := Nat.eq_of_beq_eq_true e1; subst e1
      have e2 := Nat.eq_of_beq_eq_true e2; subst e2
      have e3 := Nat.eq_of_beq_eq_true e3; subst e3
      have e4 := Nat.eq_of_beq_eq_true e4; subst e4
      have e5 := Nat.eq_of_beq_eq_true e5; subst e5
      have e6 := Nat.eq_of_beq_eq_true e6; subst e6
      have e7 := Nat.eq_of_beq_eq_true e7; subst e7
      have e8 := Nat.eq_of_beq_eq_true e8; subst e8
      have e9 := Nat.eq_of_beq_eq_true e9; subst e9
      have e10 := Nat.eq_of_beq_eq_true e10; subst e10
      have e11 := Nat.eq_of_beq_eq_true e11; subst e11
      have e12 := Nat.eq_of_beq_eq_true e12; subst e12
      have e13 := Nat.eq_of_beq_eq_true e13; subst e13
      have e14 := shBeq_eq e14; subst e14
      cases h
      exact gnc_loc n l r f c t ⟨M, st, ⟨c0, k0, a0, f0, w0, i0, d0⟩⟩ FT
    · cases h
  · cases h

end Go.Proofs.YtmndhjodbnojdaaDoor
