/-
  Made: its contract.
-/
import Derived.Test.YtmndhjodbnojdaaDoorJAmdDef
set_option linter.unusedSimpArgs false
set_option linter.unusedVariables false
namespace Go.Proofs.YtmndhjodbnojdaaDoor
open Go.Ev
theorem mdr_1 (S : MS) : callB EAm 2000 50 [AV.ptr 1 0 0] (mdrH S (tabF tab)) (mdrR S (tabF tab)) [] [Hint.b false, Hint.b false, Hint.b true, Hint.b false, Hint.b false] =
 some ([(popX (popY (popY S (PO.mk 1 0 0 0 false)) (popX S (PO.mk 1 0 0 0 false))) (popX (popY S (PO.mk 1 0 0 0 false)) (popX S (PO.mk 1 0 0 0 false)))).sl = (ppO3 S).sl,
 hdrG (mget (memPut (popY (popY (popY S (PO.mk 1 0 0 0 false)) (popX S (PO.mk 1 0 0 0 false))) (popX (popY S (PO.mk 1 0 0 0 false)) (popX S (PO.mk 1 0 0 0 false)))).M 9 (popX (popY (popY S (PO.mk 1 0 0 0 false)) (popX S (PO.mk 1 0 0 0 false))) (popX (popY S (PO.mk 1 0 0 0 false)) (popX S (PO.mk 1 0 0 0 false)))).sl 1 (mget (popY (popY (popY S (PO.mk 1 0 0 0 false)) (popX S (PO.mk 1 0 0 0 false))) (popX (popY S (PO.mk 1 0 0 0 false)) (popX S (PO.mk 1 0 0 0 false)))).M (key 2 0 0))) (key 9 (popX (popY (popY S (PO.mk 1 0 0 0 false)) (popX S (PO.mk 1 0 0 0 false))) (popX (popY S (PO.mk 1 0 0 0 false)) (popX S (PO.mk 1 0 0 0 false)))).sl 0)) = mdG0 S,
 false = false,
 true = true,
 true = true,
 (1 : Nat) ≤ (1 : Nat),
 tabF tab = tabF tab ∧ plainSh (List.map kindOfV tab) = true ∨ ∀ (i : Nat), i < 1 → rowOb (List.map kindOfV tab) 0 (tabF tab i) (tabF tab i),
 IntKind.i64.wrap (IntKind.i64.wrap (IntKind.i64.wrap (IntKind.i64.wrap (IntKind.i64.wrap ((popY (popY (popY S (PO.mk 1 0 0 0 false)) (popX S (PO.mk 1 0 0 0 false))) (popX (popY S (PO.mk 1 0 0 0 false)) (popX S (PO.mk 1 0 0 0 false)))).st + 1) + 1) + 1) + 1) + 1) = (md8 S).st,
 (2 : Int) = 2,
 (9 : Int) = 9,
 (popX (popY (popY S (PO.mk 1 0 0 0 false)) (popX S (PO.mk 1 0 0 0 false))) (popX (popY S (PO.mk 1 0 0 0 false)) (popX S (PO.mk 1 0 0 0 false)))).sl = (md8 S).L.a,
 (0 : Int) = 0,
 mget (memPut (popY (popY (popY S (PO.mk 1 0 0 0 false)) (popX S (PO.mk 1 0 0 0 false))) (popX (popY S (PO.mk 1 0 0 0 false)) (popX S (PO.mk 1 0 0 0 false)))).M 9 (popX (popY (popY S (PO.mk 1 0 0 0 false)) (popX S (PO.mk 1 0 0 0 false))) (popX (popY S (PO.mk 1 0 0 0 false)) (popX S (PO.mk 1 0 0 0 false)))).sl 1 (mget (popY (popY (popY S (PO.mk 1 0 0 0 false)) (popX S (PO.mk 1 0 0 0 false))) (popX (popY S (PO.mk 1 0 0 0 false)) (popX S (PO.mk 1 0 0 0 false)))).M (key 2 0 0))) (key 9 (popX (popY (popY S (PO.mk 1 0 0 0 false)) (popX S (PO.mk 1 0 0 0 false))) (popX (popY S (PO.mk 1 0 0 0 false)) (popX S (PO.mk 1 0 0 0 false)))).sl 0) = (md8 S).L.w,
 memIs (memPut (popY (popY (popY S (PO.mk 1 0 0 0 false)) (popX S (PO.mk 1 0 0 0 false))) (popX (popY S (PO.mk 1 0 0 0 false)) (popX S (PO.mk 1 0 0 0 false)))).M 9 (popX (popY (popY S (PO.mk 1 0 0 0 false)) (popX S (PO.mk 1 0 0 0 false))) (popX (popY S (PO.mk 1 0 0 0 false)) (popX S (PO.mk 1 0 0 0 false)))).sl 1 (mget (popY (popY (popY S (PO.mk 1 0 0 0 false)) (popX S (PO.mk 1 0 0 0 false))) (popX (popY S (PO.mk 1 0 0 0 false)) (popX S (PO.mk 1 0 0 0 false)))).M (key 2 0 0))) 9 (popX (popY (popY S (PO.mk 1 0 0 0 false)) (popX S (PO.mk 1 0 0 0 false))) (popX (popY S (PO.mk 1 0 0 0 false)) (popX S (PO.mk 1 0 0 0 false)))).sl 0 (hdr 1 (hdrG (mget (memPut (popY (popY (popY S (PO.mk 1 0 0 0 false)) (popX S (PO.mk 1 0 0 0 false))) (popX (popY S (PO.mk 1 0 0 0 false)) (popX S (PO.mk 1 0 0 0 false)))).M 9 (popX (popY (popY S (PO.mk 1 0 0 0 false)) (popX S (PO.mk 1 0 0 0 false))) (popX (popY S (PO.mk 1 0 0 0 false)) (popX S (PO.mk 1 0 0 0 false)))).sl 1 (mget (popY (popY (popY S (PO.mk 1 0 0 0 false)) (popX S (PO.mk 1 0 0 0 false))) (popX (popY S (PO.mk 1 0 0 0 false)) (popX S (PO.mk 1 0 0 0 false)))).M (key 2 0 0))) (key 9 (popX (popY (popY S (PO.mk 1 0 0 0 false)) (popX S (PO.mk 1 0 0 0 false))) (popX (popY S (PO.mk 1 0 0 0 false)) (popX S (PO.mk 1 0 0 0 false)))).sl 0)))) = (md8 S).L.i,
 false = (md8 S).L.d,
 ∀ (k : List Int), memPut (memPut (popY (popY (popY S (PO.mk 1 0 0 0 false)) (popX S (PO.mk 1 0 0 0 false))) (popX (popY S (PO.mk 1 0 0 0 false)) (popX S (PO.mk 1 0 0 0 false)))).M 9 (popX (popY (popY S (PO.mk 1 0 0 0 false)) (popX S (PO.mk 1 0 0 0 false))) (popX (popY S (PO.mk 1 0 0 0 false)) (popX S (PO.mk 1 0 0 0 false)))).sl 1 (mget (popY (popY (popY S (PO.mk 1 0 0 0 false)) (popX S (PO.mk 1 0 0 0 false))) (popX (popY S (PO.mk 1 0 0 0 false)) (popX S (PO.mk 1 0 0 0 false)))).M (key 2 0 0))) 9 (popX (popY (popY S (PO.mk 1 0 0 0 false)) (popX S (PO.mk 1 0 0 0 false))) (popX (popY S (PO.mk 1 0 0 0 false)) (popX S (PO.mk 1 0 0 0 false)))).sl 0 (hdr 1 (hdrG (mget (memPut (popY (popY (popY S (PO.mk 1 0 0 0 false)) (popX S (PO.mk 1 0 0 0 false))) (popX (popY S (PO.mk 1 0 0 0 false)) (popX S (PO.mk 1 0 0 0 false)))).M 9 (popX (popY (popY S (PO.mk 1 0 0 0 false)) (popX S (PO.mk 1 0 0 0 false))) (popX (popY S (PO.mk 1 0 0 0 false)) (popX S (PO.mk 1 0 0 0 false)))).sl 1 (mget (popY (popY (popY S (PO.mk 1 0 0 0 false)) (popX S (PO.mk 1 0 0 0 false))) (popX (popY S (PO.mk 1 0 0 0 false)) (popX S (PO.mk 1 0 0 0 false)))).M (key 2 0 0))) (key 9 (popX (popY (popY S (PO.mk 1 0 0 0 false)) (popX S (PO.mk 1 0 0 0 false))) (popX (popY S (PO.mk 1 0 0 0 false)) (popX S (PO.mk 1 0 0 0 false)))).sl 0)))) k = (md8 S).M k,
 (0 : Int) ≤ (9 : Int),
 TabIs tab (tabF tab),
 (0 : Int) ≤ (1 : Int),
 (1 : Int) < (256 : Int),
 0 ≤ hdrG (mget (memPut (popY (popY (popY S (PO.mk 1 0 0 0 false)) (popX S (PO.mk 1 0 0 0 false))) (popX (popY S (PO.mk 1 0 0 0 false)) (popX S (PO.mk 1 0 0 0 false)))).M 9 (popX (popY (popY S (PO.mk 1 0 0 0 false)) (popX S (PO.mk 1 0 0 0 false))) (popX (popY S (PO.mk 1 0 0 0 false)) (popX S (PO.mk 1 0 0 0 false)))).sl 1 (mget (popY (popY (popY S (PO.mk 1 0 0 0 false)) (popX S (PO.mk 1 0 0 0 false))) (popX (popY S (PO.mk 1 0 0 0 false)) (popX S (PO.mk 1 0 0 0 false)))).M (key 2 0 0))) (key 9 (popX (popY (popY S (PO.mk 1 0 0 0 false)) (popX S (PO.mk 1 0 0 0 false))) (popX (popY S (PO.mk 1 0 0 0 false)) (popX S (PO.mk 1 0 0 0 false)))).sl 0)),
 hdrG (mget (memPut (popY (popY (popY S (PO.mk 1 0 0 0 false)) (popX S (PO.mk 1 0 0 0 false))) (popX (popY S (PO.mk 1 0 0 0 false)) (popX S (PO.mk 1 0 0 0 false)))).M 9 (popX (popY (popY S (PO.mk 1 0 0 0 false)) (popX S (PO.mk 1 0 0 0 false))) (popX (popY S (PO.mk 1 0 0 0 false)) (popX S (PO.mk 1 0 0 0 false)))).sl 1 (mget (popY (popY (popY S (PO.mk 1 0 0 0 false)) (popX S (PO.mk 1 0 0 0 false))) (popX (popY S (PO.mk 1 0 0 0 false)) (popX S (PO.mk 1 0 0 0 false)))).M (key 2 0 0))) (key 9 (popX (popY (popY S (PO.mk 1 0 0 0 false)) (popX S (PO.mk 1 0 0 0 false))) (popX (popY S (PO.mk 1 0 0 0 false)) (popX S (PO.mk 1 0 0 0 false)))).sl 0)) < 4294967296,
 TabIs tab (tabF tab),
 0 ≤ mget (memPut (popY (popY (popY S (PO.mk 1 0 0 0 false)) (popX S (PO.mk 1 0 0 0 false))) (popX (popY S (PO.mk 1 0 0 0 false)) (popX S (PO.mk 1 0 0 0 false)))).M 9 (popX (popY (popY S (PO.mk 1 0 0 0 false)) (popX S (PO.mk 1 0 0 0 false))) (popX (popY S (PO.mk 1 0 0 0 false)) (popX S (PO.mk 1 0 0 0 false)))).sl 1 (mget (popY (popY (popY S (PO.mk 1 0 0 0 false)) (popX S (PO.mk 1 0 0 0 false))) (popX (popY S (PO.mk 1 0 0 0 false)) (popX S (PO.mk 1 0 0 0 false)))).M (key 2 0 0))) (key 9 (popX (popY (popY S (PO.mk 1 0 0 0 false)) (popX S (PO.mk 1 0 0 0 false))) (popX (popY S (PO.mk 1 0 0 0 false)) (popX S (PO.mk 1 0 0 0 false)))).sl 0),
 mget (memPut (popY (popY (popY S (PO.mk 1 0 0 0 false)) (popX S (PO.mk 1 0 0 0 false))) (popX (popY S (PO.mk 1 0 0 0 false)) (popX S (PO.mk 1 0 0 0 false)))).M 9 (popX (popY (popY S (PO.mk 1 0 0 0 false)) (popX S (PO.mk 1 0 0 0 false))) (popX (popY S (PO.mk 1 0 0 0 false)) (popX S (PO.mk 1 0 0 0 false)))).sl 1 (mget (popY (popY (popY S (PO.mk 1 0 0 0 false)) (popX S (PO.mk 1 0 0 0 false))) (popX (popY S (PO.mk 1 0 0 0 false)) (popX S (PO.mk 1 0 0 0 false)))).M (key 2 0 0))) (key 9 (popX (popY (popY S (PO.mk 1 0 0 0 false)) (popX S (PO.mk 1 0 0 0 false))) (popX (popY S (PO.mk 1 0 0 0 false)) (popX S (PO.mk 1 0 0 0 false)))).sl 0) < 18446744073709551616,
 (0 : Int) ≤ (9 : Int),
 (mget (popY (popY (popY S (PO.mk 1 0 0 0 false)) (popX S (PO.mk 1 0 0 0 false))) (popX (popY S (PO.mk 1 0 0 0 false)) (popX S (PO.mk 1 0 0 0 false)))).M (key 6 (IntKind.i64.wrap ((popX (popY (popY S (PO.mk 1 0 0 0 false)) (popX S (PO.mk 1 0 0 0 false))) (popX (popY S (PO.mk 1 0 0 0 false)) (popX S (PO.mk 1 0 0 0 false)))).sl.tdiv 8)) 0) == 2) = false,
 (!(popX (popY (popY S (PO.mk 1 0 0 0 false)) (popX S (PO.mk 1 0 0 0 false))) (popX (popY S (PO.mk 1 0 0 0 false)) (popX S (PO.mk 1 0 0 0 false)))).ok) = false,
 decide ((popX (popY (popY S (PO.mk 1 0 0 0 false)) (popX S (PO.mk 1 0 0 0 false))) (popX (popY S (PO.mk 1 0 0 0 false)) (popX S (PO.mk 1 0 0 0 false)))).ln = 0) = true,
 tabF tab = tabF tab,
 U64 (popY (popY S (PO.mk 1 0 0 0 false)) (popX S (PO.mk 1 0 0 0 false))),
 Ln3 (popX (popY S (PO.mk 1 0 0 0 false)) (popX S (PO.mk 1 0 0 0 false))).ln,
 R64 (popX (popY S (PO.mk 1 0 0 0 false)) (popX S (PO.mk 1 0 0 0 false))).h,
 decide ((popX (popY S (PO.mk 1 0 0 0 false)) (popX S (PO.mk 1 0 0 0 false))).ln = 0) = false,
 tabF tab = tabF tab,
 U64 (popY S (PO.mk 1 0 0 0 false)),
 Ln3 (popX S (PO.mk 1 0 0 0 false)).ln,
 R64 (popX S (PO.mk 1 0 0 0 false)).h,
 decide ((popX S (PO.mk 1 0 0 0 false)).ln = 0) = false,
 tabF tab = tabF tab,
 U64 S,
 Ln3 1,
 R64 0]) := by kernel_rfl
theorem mdr_loc (S : MS) (FT : Nat → Nat → AV) : LocOk Tryd.prog 50 [.ptr 1 0 0] (mdrH S FT) (mdrR S FT) := by
  refine loc_of_call EAm_ok (fun hp => ?_)
  have hFT : FT = tabF tab := hp _ (List.mem_cons_self ..)
  have hm : MdOk S := hp _ (List.mem_cons_of_mem _ (List.mem_cons_self ..))
  clear hp
  subst hFT
  have hu1 := (ppS_u hm.u).1
  have hu2 := (ppS_u hm.u).2.1
  have ho1 := (ppO_ok hm.u).1
  have ho2 := (ppO_ok hm.u).2
  have hu6 : U64 (md6 S) := (((((ppS_u hm.u).2.2).load _ _ _).load _ _ _).store _ _ _ _ ((ppS_u hm.u).2.2 _))
  refine ⟨2000, _, _, _, mdr_1 .., (ob_cons ?_ (ob_cons ?_ (ob_cons rfl (ob_cons rfl (ob_cons rfl (ob_cons (Nat.le_refl _) (ob_cons (.inl ⟨rfl, rfl⟩) (ob_cons ?_ (ob_cons rfl (ob_cons rfl (ob_cons ?_ (ob_cons rfl (ob_cons ?_ (ob_cons ?_ (ob_cons ?_ (ob_cons ?_ (ob_cons (by decide) (ob_cons (tabIs_self _) (ob_cons (by decide) (ob_cons (by decide) (ob_cons ?_ (ob_cons ?_ (ob_cons (tabIs_self _) (ob_cons ?_ (ob_cons ?_ (ob_cons (by decide) (ob_cons ?_ (ob_cons ?_ (ob_cons ?_ (ob_cons rfl (ob_cons ?_ (ob_cons ?_ (ob_cons ?_ (ob_cons ?_ (ob_cons rfl (ob_cons ?_ (ob_cons ?_ (ob_cons ?_ (ob_cons ?_ (ob_cons rfl (ob_cons ?_ (ob_cons ?_ (ob_cons ?_ ob_nil)))))))))))))))))))))))))))))))))))))))))))⟩
  · exact rfl
  · exact rfl
  · exact rfl
  · exact rfl
  · exact rfl
  · exact rfl
  · exact rfl
  · exact fun _ => rfl
  · exact (hdrG_r _).1
  · exact (hdrG_r _).2
  · exact (hu6 _).1
  · exact (hu6 _).2
  · exact eqF hm.c5
  · exact not_f hm.c4
  · exact decide_eq_true hm.c3
  · exact hu2
  · exact ho2.l
  · exact ho2.h
  · exact decide_eq_false hm.c2
  · exact hu1
  · exact ho1.l
  · exact ho1.h
  · exact decide_eq_false hm.c1
  · exact hm.u
  · exact .inr (.inl rfl)
  · exact z0
theorem mnr_1 (S : MS) : callB EAm 2000 50 [AV.ptr 1 0 0] (mnrH S (tabF tab)) (mnrR S (tabF tab)) [] [Hint.b true, Hint.b true] =
 some ([(-1 : Int) = -1,
 (0 : Int) = 0,
 false = false,
 false = false,
 true = true,
 (1 : Nat) ≤ (1 : Nat),
 tabF tab = tabF tab ∧ plainSh (List.map kindOfV tab) = true ∨ ∀ (i : Nat), i < 1 → rowOb (List.map kindOfV tab) 0 (tabF tab i) (tabF tab i),
 (popY S (PO.mk 1 0 0 0 false)).st = (ppS1 S).st,
 (popY S (PO.mk 1 0 0 0 false)).L.c = (ppS1 S).L.c,
 (popY S (PO.mk 1 0 0 0 false)).L.k = (ppS1 S).L.k,
 (popY S (PO.mk 1 0 0 0 false)).L.a = (ppS1 S).L.a,
 (popY S (PO.mk 1 0 0 0 false)).L.f = (ppS1 S).L.f,
 (popY S (PO.mk 1 0 0 0 false)).L.w = (ppS1 S).L.w,
 (popY S (PO.mk 1 0 0 0 false)).L.i = (ppS1 S).L.i,
 (popY S (PO.mk 1 0 0 0 false)).L.d = (ppS1 S).L.d,
 ∀ (k : List Int), (popY S (PO.mk 1 0 0 0 false)).M k = (ppS1 S).M k,
 (!(popX S (PO.mk 1 0 0 0 false)).ok) = true,
 decide ((popX S (PO.mk 1 0 0 0 false)).ln = 0) = true,
 tabF tab = tabF tab,
 U64 S,
 Ln3 1,
 R64 0]) := by kernel_rfl
theorem mnr_loc (S : MS) (FT : Nat → Nat → AV) : LocOk Tryd.prog 50 [.ptr 1 0 0] (mnrH S FT) (mnrR S FT) := by
  refine loc_of_call EAm_ok (fun hp => ?_)
  have hFT : FT = tabF tab := hp _ (List.mem_cons_self ..)
  have hm : MnOk S := hp _ (List.mem_cons_of_mem _ (List.mem_cons_self ..))
  clear hp
  subst hFT
  refine ⟨2000, _, _, _, mnr_1 .., (ob_cons rfl (ob_cons rfl (ob_cons rfl (ob_cons rfl (ob_cons rfl (ob_cons (Nat.le_refl _) (ob_cons (.inl ⟨rfl, rfl⟩) (ob_cons ?_ (ob_cons ?_ (ob_cons ?_ (ob_cons ?_ (ob_cons ?_ (ob_cons ?_ (ob_cons ?_ (ob_cons ?_ (ob_cons ?_ (ob_cons ?_ (ob_cons ?_ (ob_cons rfl (ob_cons ?_ (ob_cons ?_ (ob_cons ?_ ob_nil))))))))))))))))))))))⟩
  · exact rfl
  · exact rfl
  · exact rfl
  · exact rfl
  · exact rfl
  · exact rfl
  · exact rfl
  · exact rfl
  · exact fun _ => rfl
  · exact not_t hm.c2
  · exact decide_eq_true hm.c1
  · exact hm.u
  · exact .inr (.inl rfl)
  · exact z0
noncomputable def madR (S : MS) (FT : Nat → Nat → AV) : LR := ⟨2, .tup [.agg [.sym .i64 (mdS S), .sym .u32 (mdG S), .symb false], .symb true], [(gnm 0, .arr tab.length (tab.map kindOfV) true 1 FT), (1, .cells 9 (.map 2 :: lsL (mdX S).st (mdX S).L)), (2, .map 115 (mdX S).M)], 0, [1, 2], [FT = tabF tab, MdOk S]⟩
theorem mad_loc (S : MS) (FT : Nat → Nat → AV) : LocOk Tryd.prog 50 [.ptr 1 0 0] [(gnm 0, .arr tab.length (tab.map kindOfV) true 1 FT), (1, .cells 9 (.map 2 :: lsL S.st S.L)), (2, .map 115 S.M)] (madR S FT) := by
  unfold madR
  rw [mdX_eq, mdS_eq, mdG_eq]
  exact mdr_loc S FT
noncomputable def madSpec : LSpec := fun la lh => match la, lh with
  | [.ptr z1 z2 z3], [(zt, .arr nt sht rot lent FT), (z4, .cells z5 [.map z6, .sym .i64 st, .sym .u8 c0, .sym .u8 k0, .sym .i64 a0, .sym .i64 f0, .sym .u64 w0, .sym .u64 i0, .symb d0]), (z7, .map z8 M)] =>
    match (Nat.beq zt (gnm 0) && (Nat.beq nt tab.length && (shBeq sht (tab.map kindOfV) && (rot && Nat.beq lent 1)))) && (Nat.beq z1 1 && (Nat.beq z2 0 && (Nat.beq z3 0 && (Nat.beq z4 1 && (Nat.beq z5 9 && (Nat.beq z6 2 && (Nat.beq z7 2 && (Nat.beq z8 115)))))))) with
    | true => some (madR ⟨M, st, ⟨c0, k0, a0, f0, w0, i0, d0⟩⟩ FT)
    | false => none
  | _, _ => none
theorem madSpec_ok (la : List AV) (lh : List (Nat × AO)) (R : LR) (h : madSpec la lh = some R) : LocOk Tryd.prog 50 la lh R := by
  unfold madSpec at h
  split at h
  · rename_i z1 z2 z3 zt nt sht rot lent FT z4 z5 z6 st c0 k0 a0 f0 w0 i0 d0 z7 z8 M
    split at h
    · rename_i hb
      simp only [Bool.and_eq_true] at hb
      obtain ⟨⟨t1, t2, t3, t4, t5⟩, e1, e2, e3, e4, e5, e6, e7, e8⟩ := hb
      have t1 := Nat.eq_of_beq_eq_true t1; subst t1
      have t2 := Nat.eq_of_beq_eq_true t2; subst t2
      have t3 := shBeq_eq t3; subst t3
      subst t4
      have t5 := Nat.eq_of_beq_eq_true t5; subst t5
      have e1 := Nat.eq_of_beq_eq_true e1; subst e1
      have e2 := Nat.eq_of_beq_eq_true e2; subst e2
      have e3 := Nat.eq_of_beq_eq_true e3; subst e3
      have e4 := Nat.eq_of_beq_eq_true e4; subst e4
      have e5 := Nat.eq_of_beq_eq_true e5; subst e5
      have e6 := Nat.eq_of_beq_eq_true e6; subst e6
      have e7 := Nat.eq_of_beq_eq_true e7; subst e7
      have e8 := Nat.eq_of_beq_eq_true e8; subst e8
      cases h
      exact mad_loc ⟨M, st, ⟨c0, k0, a0, f0, w0, i0, d0⟩⟩ FT
    · cases h
  · cases h
noncomputable def mnoR (S : MS) (FT : Nat → Nat → AV) : LR := ⟨2, .tup [.agg [.sym .i64 (-1), .sym .u32 0, .symb false], .symb false], [(gnm 0, .arr tab.length (tab.map kindOfV) true 1 FT), (1, .cells 9 (.map 2 :: lsL (ppS1 S).st (ppS1 S).L)), (2, .map 115 (ppS1 S).M)], 0, [1, 2], [FT = tabF tab, MnOk S]⟩
theorem mno_loc (S : MS) (FT : Nat → Nat → AV) : LocOk Tryd.prog 50 [.ptr 1 0 0] [(gnm 0, .arr tab.length (tab.map kindOfV) true 1 FT), (1, .cells 9 (.map 2 :: lsL S.st S.L)), (2, .map 115 S.M)] (mnoR S FT) := by
  unfold mnoR
  exact mnr_loc S FT
noncomputable def mnoSpec : LSpec := fun la lh => match la, lh with
  | [.ptr z1 z2 z3], [(zt, .arr nt sht rot lent FT), (z4, .cells z5 [.map z6, .sym .i64 st, .sym .u8 c0, .sym .u8 k0, .sym .i64 a0, .sym .i64 f0, .sym .u64 w0, .sym .u64 i0, .symb d0]), (z7, .map z8 M)] =>
    match (Nat.beq zt (gnm 0) && (Nat.beq nt tab.length && (shBeq sht (tab.map kindOfV) && (rot && Nat.beq lent 1)))) && (Nat.beq z1 1 && (Nat.beq z2 0 && (Nat.beq z3 0 && (Nat.beq z4 1 && (Nat.beq z5 9 && (Nat.beq z6 2 && (Nat.beq z7 2 && (Nat.beq z8 115)))))))) with
    | true => some (mnoR ⟨M, st, ⟨c0, k0, a0, f0, w0, i0, d0⟩⟩ FT)
    | false => none
  | _, _ => none
theorem mnoSpec_ok (la : List AV) (lh : List (Nat × AO)) (R : LR) (h : mnoSpec la lh = some R) : LocOk Tryd.prog 50 la lh R := by
  unfold mnoSpec at h
  split at h
  · rename_i z1 z2 z3 zt nt sht rot lent FT z4 z5 z6 st c0 k0 a0 f0 w0 i0 d0 z7 z8 M
    split at h
    · rename_i hb
      simp only [Bool.and_eq_true] at hb
      obtain ⟨⟨t1, t2, t3, t4, t5⟩, e1, e2, e3, e4, e5, e6, e7, e8⟩ := hb
      have t1 := Nat.eq_of_beq_eq_true t1; subst t1
      have t2 := Nat.eq_of_beq_eq_true t2; subst t2
      have t3 := shBeq_eq t3; subst t3
      subst t4
      have t5 := Nat.eq_of_beq_eq_true t5; subst t5
      have e1 := Nat.eq_of_beq_eq_true e1; subst e1
      have e2 := Nat.eq_of_beq_eq_true e2; subst e2
      have e3 := Nat.eq_of_beq_eq_true e3; subst e3
      have e4 := Nat.eq_of_beq_eq_true e4; subst e4
      have e5 := Nat.eq_of_beq_eq_true e5; subst e5
      have e6 := Nat.eq_of_beq_eq_true e6; subst e6
      have e7 := Nat.eq_of_beq_eq_true e7; subst e7
      have e8 := Nat.eq_of_beq_eq_true e8; subst e8
      cases h
      exact mno_loc ⟨M, st, ⟨c0, k0, a0, f0, w0, i0, d0⟩⟩ FT
    · cases h
  · cases h
/-- Made, by a hint: .n 0: it gets a slot; .n 1: there is none. -/
noncomputable def madeSP : SP := altN madSpec mnoSpec
theorem madeSP_ok : SPOk Tryd.prog 50 madeSP := altN_ok madSpec_ok mnoSpec_ok

end Go.Proofs.YtmndhjodbnojdaaDoor
