/-
  A memory's Store, Load, CAS.
-/
import Derived.Test.YtljeiencnpnbkaaDoorUMemMay
set_option linter.unusedSimpArgs false
set_option linter.unusedVariables false
namespace Go.Proofs.YtljeiencnpnbkaaDoor
open Go.Ev
section
variable (kd ad fd w v st : Int) (x2 x3 x4 x5 x6 x7 x8 : AV) (M : List Int → Option Int)
theorem mst_1 : callB EM1 2000 16 [AV.ptr 1 0 0, AV.agg [AV.sym IntKind.u8 kd, AV.sym IntKind.i64 ad, AV.sym IntKind.i64 fd], AV.sym IntKind.u64 v] (memH M st [x2, x3, x4, x5, x6, x7, x8]) (storeR st kd ad fd v M) [] [Hint.node [], Hint.b true] =
 some ([IntKind.i64.wrap (st + 1) = IntKind.i64.wrap (st + 1),
 (2 : Int) = 2,
 kd = kd,
 ad = ad,
 fd = fd,
 mget M [kd, ad, fd] = mget M (key kd ad fd),
 v = memIs M kd ad fd v,
 ((2 : Int) == (3 : Int)) = false,
 ∀ (k : List Int), setKey (setKey M [kd, ad, fd] (some (mval M [kd, ad, fd]))) [kd, ad, fd] (some v) k = memPut M kd ad fd v k,
 mayA kd ad fd = true,
 0 ≤ kd]) := by kernel_rfl
theorem mst_2 : callB EM1 2000 16 [AV.ptr 1 0 0, AV.agg [AV.sym IntKind.u8 kd, AV.sym IntKind.i64 ad, AV.sym IntKind.i64 fd], AV.sym IntKind.u64 v] (memH M st [x2, x3, x4, x5, x6, x7, x8]) (storeR st kd ad fd v M) [] [Hint.node [], Hint.b false] =
 some ([IntKind.i64.wrap (st + 1) = IntKind.i64.wrap (st + 1),
 (2 : Int) = 2,
 kd = kd,
 ad = ad,
 fd = fd,
 mget M [kd, ad, fd] = mget M (key kd ad fd),
 mget M [kd, ad, fd] = memIs M kd ad fd v,
 false = false,
 ∀ (k : List Int), M k = memPut M kd ad fd v k,
 mayA kd ad fd = false,
 0 ≤ kd]) := by kernel_rfl
theorem mld_1 : callB EM1 2000 33 [AV.ptr 1 0 0, AV.agg [AV.sym IntKind.u8 kd, AV.sym IntKind.i64 ad, AV.sym IntKind.i64 fd]] (memH M st [x2, x3, x4, x5, x6, x7, x8]) (loadR st kd ad fd M) [] [] =
 some ([mget M [kd, ad, fd] = mget M (key kd ad fd),
 IntKind.i64.wrap (st + 1) = IntKind.i64.wrap (st + 1),
 (1 : Int) = 1,
 kd = kd,
 ad = ad,
 fd = fd,
 mget M [kd, ad, fd] = mget M (key kd ad fd),
 mget M [kd, ad, fd] = mget M (key kd ad fd),
 false = false,
 ∀ (k : List Int), M k = M k]) := by kernel_rfl
theorem mcs_1 : callB EM1 2000 180 [AV.ptr 1 0 0, AV.agg [AV.sym IntKind.u8 kd, AV.sym IntKind.i64 ad, AV.sym IntKind.i64 fd], AV.sym IntKind.u64 w, AV.sym IntKind.u64 v] (memH M st [x2, x3, x4, x5, x6, x7, x8]) (casR st kd ad fd w v M) [] [Hint.node [], Hint.node [], Hint.b true, Hint.b true] =
 some ([((3 : Int) == (3 : Int)) = casD M kd ad fd w,
 IntKind.i64.wrap (st + 1) = IntKind.i64.wrap (st + 1),
 (3 : Int) = 3,
 kd = kd,
 ad = ad,
 fd = fd,
 mget M [kd, ad, fd] = mget M (key kd ad fd),
 v = casI M kd ad fd w v,
 ((3 : Int) == (3 : Int)) = casD M kd ad fd w,
 ∀ (k : List Int), setKey (setKey M [kd, ad, fd] (some (mval M [kd, ad, fd]))) [kd, ad, fd] (some v) k = casM M kd ad fd w v k,
 mayA kd ad fd = true,
 0 ≤ kd,
 (mget M [kd, ad, fd] == w) = true]) := by kernel_rfl
theorem mcs_2 : callB EM1 2000 180 [AV.ptr 1 0 0, AV.agg [AV.sym IntKind.u8 kd, AV.sym IntKind.i64 ad, AV.sym IntKind.i64 fd], AV.sym IntKind.u64 w, AV.sym IntKind.u64 v] (memH M st [x2, x3, x4, x5, x6, x7, x8]) (casR st kd ad fd w v M) [] [Hint.node [], Hint.node [], Hint.b true, Hint.b false] =
 some ([false = casD M kd ad fd w,
 IntKind.i64.wrap (st + 1) = IntKind.i64.wrap (st + 1),
 (3 : Int) = 3,
 kd = kd,
 ad = ad,
 fd = fd,
 mget M [kd, ad, fd] = mget M (key kd ad fd),
 mget M [kd, ad, fd] = casI M kd ad fd w v,
 false = casD M kd ad fd w,
 ∀ (k : List Int), M k = casM M kd ad fd w v k,
 mayA kd ad fd = false,
 0 ≤ kd,
 (mget M [kd, ad, fd] == w) = true]) := by kernel_rfl
theorem mcs_3 : callB EM1 2000 180 [AV.ptr 1 0 0, AV.agg [AV.sym IntKind.u8 kd, AV.sym IntKind.i64 ad, AV.sym IntKind.i64 fd], AV.sym IntKind.u64 w, AV.sym IntKind.u64 v] (memH M st [x2, x3, x4, x5, x6, x7, x8]) (casR st kd ad fd w v M) [] [Hint.node [], Hint.node [], Hint.b false] =
 some ([false = casD M kd ad fd w,
 IntKind.i64.wrap (st + 1) = IntKind.i64.wrap (st + 1),
 (3 : Int) = 3,
 kd = kd,
 ad = ad,
 fd = fd,
 mget M [kd, ad, fd] = mget M (key kd ad fd),
 mget M [kd, ad, fd] = casI M kd ad fd w v,
 false = casD M kd ad fd w,
 ∀ (k : List Int), M k = casM M kd ad fd w v k,
 (mget M [kd, ad, fd] == w) = false]) := by kernel_rfl
theorem mst_loc : LocOk Tryd.prog 16 [.ptr 1 0 0, .agg [.sym .u8 kd, .sym .i64 ad, .sym .i64 fd], .sym .u64 v] (memH M st [x2, x3, x4, x5, x6, x7, x8]) (storeR st kd ad fd v M) := by
  refine loc_of_call EM1_ok (fun hp => ?_)
  have hk : 0 ≤ kd := hp _ (List.mem_cons_self ..)
  clear hp
  cases h1 : (mayA kd ad fd) with
  | true =>
    refine ⟨2000, _, _, _, mst_1 .., (ob_cons rfl (ob_cons rfl (ob_cons rfl (ob_cons rfl (ob_cons rfl (ob_cons ?_ (ob_cons ?_ (ob_cons ?_ (ob_cons ?_ (ob_cons h1 (ob_cons ?_ ob_nil)))))))))))⟩
    ·
      first | rfl | exact hk | decide | (unfold memIs; (try rw [h1]); first | done | rfl) | (unfold memPut; (try rw [h1]); intro q; first | rfl | exact congrFun (setKey2 ..) q)
    ·
      first | rfl | exact hk | decide | (unfold memIs; (try rw [h1]); first | done | rfl) | (unfold memPut; (try rw [h1]); intro q; first | rfl | exact congrFun (setKey2 ..) q)
    ·
      first | (apply Nat.ble_eq_true_of_le; omega) | (simp [Nat.blt_eq]; omega) | exact hk | decide | (unfold memIs; (try rw [h1]); first | done | rfl) | (unfold memPut; (try rw [h1]); intro q; first | rfl | exact congrFun (setKey2 ..) q)
    ·
      first | exact fun _ => rfl | exact hk | decide | (unfold memIs; (try rw [h1]); first | done | rfl) | (unfold memPut; (try rw [h1]); intro q; first | rfl | exact congrFun (setKey2 ..) q)
    ·
      first | exact Nat.le_refl _ | omega | exact hk | decide | (unfold memIs; (try rw [h1]); first | done | rfl) | (unfold memPut; (try rw [h1]); intro q; first | rfl | exact congrFun (setKey2 ..) q)
  | false =>
    refine ⟨2000, _, _, _, mst_2 .., (ob_cons rfl (ob_cons rfl (ob_cons rfl (ob_cons rfl (ob_cons rfl (ob_cons ?_ (ob_cons ?_ (ob_cons rfl (ob_cons ?_ (ob_cons h1 (ob_cons ?_ ob_nil)))))))))))⟩
    ·
      first | rfl | exact hk | decide | (unfold memIs; (try rw [h1]); first | done | rfl) | (unfold memPut; (try rw [h1]); intro q; first | rfl | exact congrFun (setKey2 ..) q)
    ·
      first | rfl | exact hk | decide | (unfold memIs; (try rw [h1]); first | done | rfl) | (unfold memPut; (try rw [h1]); intro q; first | rfl | exact congrFun (setKey2 ..) q)
    ·
      first | exact fun _ => rfl | exact hk | decide | (unfold memIs; (try rw [h1]); first | done | rfl) | (unfold memPut; (try rw [h1]); intro q; first | rfl | exact congrFun (setKey2 ..) q)
    ·
      first | exact Nat.le_refl _ | omega | exact hk | decide | (unfold memIs; (try rw [h1]); first | done | rfl) | (unfold memPut; (try rw [h1]); intro q; first | rfl | exact congrFun (setKey2 ..) q)
theorem mld_loc : LocOk Tryd.prog 33 [.ptr 1 0 0, .agg [.sym .u8 kd, .sym .i64 ad, .sym .i64 fd]] (memH M st [x2, x3, x4, x5, x6, x7, x8]) (loadR st kd ad fd M) := by
  refine loc_of_call EM1_ok (fun hp => ?_)
  clear hp
  refine ⟨2000, _, _, _, mld_1 .., (ob_cons ?_ (ob_cons rfl (ob_cons rfl (ob_cons rfl (ob_cons rfl (ob_cons rfl (ob_cons ?_ (ob_cons ?_ (ob_cons rfl (ob_cons (fun _ => rfl) ob_nil))))))))))⟩
  ·
    first | rfl | exact fun _ => rfl
  ·
    first | rfl | exact fun _ => rfl
  ·
    first | rfl | exact fun _ => rfl
theorem mcs_loc : LocOk Tryd.prog 180 [.ptr 1 0 0, .agg [.sym .u8 kd, .sym .i64 ad, .sym .i64 fd], .sym .u64 w, .sym .u64 v] (memH M st [x2, x3, x4, x5, x6, x7, x8]) (casR st kd ad fd w v M) := by
  refine loc_of_call EM1_ok (fun hp => ?_)
  have hk : 0 ≤ kd := hp _ (List.mem_cons_self ..)
  clear hp
  cases h1 : (mget M [kd, ad, fd] == w) with
  | true =>
    cases h2 : (mayA kd ad fd) with
    | true =>
      refine ⟨2000, _, _, _, mcs_1 .., (ob_cons ?_ (ob_cons rfl (ob_cons rfl (ob_cons rfl (ob_cons rfl (ob_cons rfl (ob_cons ?_ (ob_cons ?_ (ob_cons ?_ (ob_cons ?_ (ob_cons h2 (ob_cons ?_ (ob_cons h1 ob_nil)))))))))))))⟩
      ·
        first | rfl | exact hk | decide | (unfold casI casD key; (try rw [h1]); (try rw [h2]); first | done | rfl) | (unfold casD key; (try rw [h1]); (try rw [h2]); first | done | rfl) | (unfold casM casD key; (try rw [h1]); (try rw [h2]); intro q; first | rfl | exact congrFun (setKey2 ..) q)
      ·
        first | rfl | exact hk | decide | (unfold casI casD key; (try rw [h1]); (try rw [h2]); first | done | rfl) | (unfold casD key; (try rw [h1]); (try rw [h2]); first | done | rfl) | (unfold casM casD key; (try rw [h1]); (try rw [h2]); intro q; first | rfl | exact congrFun (setKey2 ..) q)
      ·
        first | rfl | exact hk | decide | (unfold casI casD key; (try rw [h1]); (try rw [h2]); first | done | rfl) | (unfold casD key; (try rw [h1]); (try rw [h2]); first | done | rfl) | (unfold casM casD key; (try rw [h1]); (try rw [h2]); intro q; first | rfl | exact congrFun (setKey2 ..) q)
      ·
        first | rfl | exact hk | decide | (unfold casI casD key; (try rw [h1]); (try rw [h2]); first | done | rfl) | (unfold casD key; (try rw [h1]); (try rw [h2]); first | done | rfl) | (unfold casM casD key; (try rw [h1]); (try rw [h2]); intro q; first | rfl | exact congrFun (setKey2 ..) q)
      ·
        first | exact fun _ => rfl | exact hk | decide | (unfold casI casD key; (try rw [h1]); (try rw [h2]); first | done | rfl) | (unfold casD key; (try rw [h1]); (try rw [h2]); first | done | rfl) | (unfold casM casD key; (try rw [h1]); (try rw [h2]); intro q; first | rfl | exact congrFun (setKey2 ..) q)
      ·
        first | exact Nat.le_refl _ | omega | exact hk | decide | (unfold casI casD key; (try rw [h1]); (try rw [h2]); first | done | rfl) | (unfold casD key; (try rw [h1]); (try rw [h2]); first | done | rfl) | (unfold casM casD key; (try rw [h1]); (try rw [h2]); intro q; first | rfl | exact congrFun (setKey2 ..) q)
    | false =>
      refine ⟨2000, _, _, _, mcs_2 .., (ob_cons ?_ (ob_cons rfl (ob_cons rfl (ob_cons rfl (ob_cons rfl (ob_cons rfl (ob_cons ?_ (ob_cons ?_ (ob_cons ?_ (ob_cons ?_ (ob_cons h2 (ob_cons ?_ (ob_cons h1 ob_nil)))))))))))))⟩
      ·
        first | rfl | exact hk | decide | (unfold casI casD key; (try rw [h1]); (try rw [h2]); first | done | rfl) | (unfold casD key; (try rw [h1]); (try rw [h2]); first | done | rfl) | (unfold casM casD key; (try rw [h1]); (try rw [h2]); intro q; first | rfl | exact congrFun (setKey2 ..) q)
      ·
        first | rfl | exact hk | decide | (unfold casI casD key; (try rw [h1]); (try rw [h2]); first | done | rfl) | (unfold casD key; (try rw [h1]); (try rw [h2]); first | done | rfl) | (unfold casM casD key; (try rw [h1]); (try rw [h2]); intro q; first | rfl | exact congrFun (setKey2 ..) q)
      ·
        first | rfl | exact hk | decide | (unfold casI casD key; (try rw [h1]); (try rw [h2]); first | done | rfl) | (unfold casD key; (try rw [h1]); (try rw [h2]); first | done | rfl) | (unfold casM casD key; (try rw [h1]); (try rw [h2]); intro q; first | rfl | exact congrFun (setKey2 ..) q)
      ·
        first | rfl | exact hk | decide | (unfold casI casD key; (try rw [h1]); (try rw [h2]); first | done | rfl) | (unfold casD key; (try rw [h1]); (try rw [h2]); first | done | rfl) | (unfold casM casD key; (try rw [h1]); (try rw [h2]); intro q; first | rfl | exact congrFun (setKey2 ..) q)
      ·
        first | exact fun _ => rfl | exact hk | decide | (unfold casI casD key; (try rw [h1]); (try rw [h2]); first | done | rfl) | (unfold casD key; (try rw [h1]); (try rw [h2]); first | done | rfl) | (unfold casM casD key; (try rw [h1]); (try rw [h2]); intro q; first | rfl | exact congrFun (setKey2 ..) q)
      ·
        first | exact Nat.le_refl _ | omega | exact hk | decide | (unfold casI casD key; (try rw [h1]); (try rw [h2]); first | done | rfl) | (unfold casD key; (try rw [h1]); (try rw [h2]); first | done | rfl) | (unfold casM casD key; (try rw [h1]); (try rw [h2]); intro q; first | rfl | exact congrFun (setKey2 ..) q)
  | false =>
    refine ⟨2000, _, _, _, mcs_3 .., (ob_cons ?_ (ob_cons rfl (ob_cons rfl (ob_cons rfl (ob_cons rfl (ob_cons rfl (ob_cons ?_ (ob_cons ?_ (ob_cons ?_ (ob_cons ?_ (ob_cons h1 ob_nil)))))))))))⟩
    ·
      first | rfl | exact hk | decide | (unfold casI casD key; (try rw [h1]); first | done | rfl) | (unfold casD key; (try rw [h1]); first | done | rfl) | (unfold casM casD key; (try rw [h1]); intro q; first | rfl | exact congrFun (setKey2 ..) q)
    ·
      first | rfl | exact hk | decide | (unfold casI casD key; (try rw [h1]); first | done | rfl) | (unfold casD key; (try rw [h1]); first | done | rfl) | (unfold casM casD key; (try rw [h1]); intro q; first | rfl | exact congrFun (setKey2 ..) q)
    ·
      first | rfl | exact hk | decide | (unfold casI casD key; (try rw [h1]); first | done | rfl) | (unfold casD key; (try rw [h1]); first | done | rfl) | (unfold casM casD key; (try rw [h1]); intro q; first | rfl | exact congrFun (setKey2 ..) q)
    ·
      first | rfl | exact hk | decide | (unfold casI casD key; (try rw [h1]); first | done | rfl) | (unfold casD key; (try rw [h1]); first | done | rfl) | (unfold casM casD key; (try rw [h1]); intro q; first | rfl | exact congrFun (setKey2 ..) q)
    ·
      first | exact fun _ => rfl | exact hk | decide | (unfold casI casD key; (try rw [h1]); first | done | rfl) | (unfold casD key; (try rw [h1]); first | done | rfl) | (unfold casM casD key; (try rw [h1]); intro q; first | rfl | exact congrFun (setKey2 ..) q)
end
noncomputable def mstSpec : LSpec := fun la lh => match la, lh with
  | [.ptr z1 z2 z3, .agg [.sym .u8 kd, .sym .i64 ad, .sym .i64 fd], .sym .u64 v], [(z4, .cells z5 [.map z6, .sym .i64 st, x2, x3, x4, x5, x6, x7, x8]), (z7, .map z8 M)] =>
    match Nat.beq z1 1 && (Nat.beq z2 0 && (Nat.beq z3 0 && (Nat.beq z4 1 && (Nat.beq z5 9 && (Nat.beq z6 2 && (Nat.beq z7 2 && (Nat.beq z8 110))))))) with
    | true => some (storeR st kd ad fd v M)
    | false => none
  | _, _ => none
theorem mstSpec_ok (la : List AV) (lh : List (Nat × AO)) (R : LR) (h : mstSpec la lh = some R) : LocOk Tryd.prog 16 la lh R := by
  unfold mstSpec at h
  split at h
  · rename_i z1 z2 z3 kd ad fd v z4 z5 z6 st x2 x3 x4 x5 x6 x7 x8 z7 z8 M
    split at h
    · rename_i hb
      simp only [Bool.and_eq_true] at hb
      obtain ⟨e1, e2, e3, e4, e5, e6, e7, e8⟩ := hb
      have e1 := Nat.eq_of_beq_eq_true e1; subst e1
      have e2 := Nat.eq_of_beq_eq_true e2; subst e2
      have e3 := Nat.eq_of_beq_eq_true e3; subst e3
      have e4 := Nat.eq_of_beq_eq_true e4; subst e4
      have e5 := Nat.eq_of_beq_eq_true e5; subst e5
      have e6 := Nat.eq_of_beq_eq_true e6; subst e6
      have e7 := Nat.eq_of_beq_eq_true e7; subst e7
      have e8 := Nat.eq_of_beq_eq_true e8; subst e8
      cases h
      exact mst_loc kd ad fd v st x2 x3 x4 x5 x6 x7 x8 M
    · cases h
  · cases h

noncomputable def mldSpec : LSpec := fun la lh => match la, lh with
  | [.ptr z1 z2 z3, .agg [.sym .u8 kd, .sym .i64 ad, .sym .i64 fd]], [(z4, .cells z5 [.map z6, .sym .i64 st, x2, x3, x4, x5, x6, x7, x8]), (z7, .map z8 M)] =>
    match Nat.beq z1 1 && (Nat.beq z2 0 && (Nat.beq z3 0 && (Nat.beq z4 1 && (Nat.beq z5 9 && (Nat.beq z6 2 && (Nat.beq z7 2 && (Nat.beq z8 110))))))) with
    | true => some (loadR st kd ad fd M)
    | false => none
  | _, _ => none
theorem mldSpec_ok (la : List AV) (lh : List (Nat × AO)) (R : LR) (h : mldSpec la lh = some R) : LocOk Tryd.prog 33 la lh R := by
  unfold mldSpec at h
  split at h
  · rename_i z1 z2 z3 kd ad fd z4 z5 z6 st x2 x3 x4 x5 x6 x7 x8 z7 z8 M
    split at h
    · rename_i hb
      simp only [Bool.and_eq_true] at hb
      obtain ⟨e1, e2, e3, e4, e5, e6, e7, e8⟩ := hb
      have e1 := Nat.eq_of_beq_eq_true e1; subst e1
      have e2 := Nat.eq_of_beq_eq_true e2; subst e2
      have e3 := Nat.eq_of_beq_eq_true e3; subst e3
      have e4 := Nat.eq_of_beq_eq_true e4; subst e4
      have e5 := Nat.eq_of_beq_eq_true e5; subst e5
      have e6 := Nat.eq_of_beq_eq_true e6; subst e6
      have e7 := Nat.eq_of_beq_eq_true e7; subst e7
      have e8 := Nat.eq_of_beq_eq_true e8; subst e8
      cases h
      exact mld_loc kd ad fd st x2 x3 x4 x5 x6 x7 x8 M
    · cases h
  · cases h

noncomputable def mcsSpec : LSpec := fun la lh => match la, lh with
  | [.ptr z1 z2 z3, .agg [.sym .u8 kd, .sym .i64 ad, .sym .i64 fd], .sym .u64 w, .sym .u64 v], [(z4, .cells z5 [.map z6, .sym .i64 st, x2, x3, x4, x5, x6, x7, x8]), (z7, .map z8 M)] =>
    match Nat.beq z1 1 && (Nat.beq z2 0 && (Nat.beq z3 0 && (Nat.beq z4 1 && (Nat.beq z5 9 && (Nat.beq z6 2 && (Nat.beq z7 2 && (Nat.beq z8 110))))))) with
    | true => some (casR st kd ad fd w v M)
    | false => none
  | _, _ => none
theorem mcsSpec_ok (la : List AV) (lh : List (Nat × AO)) (R : LR) (h : mcsSpec la lh = some R) : LocOk Tryd.prog 180 la lh R := by
  unfold mcsSpec at h
  split at h
  · rename_i z1 z2 z3 kd ad fd w v z4 z5 z6 st x2 x3 x4 x5 x6 x7 x8 z7 z8 M
    split at h
    · rename_i hb
      simp only [Bool.and_eq_true] at hb
      obtain ⟨e1, e2, e3, e4, e5, e6, e7, e8⟩ := hb
      have e1 := Nat.eq_of_beq_eq_true e1; subst e1
      have e2 := Nat.eq_of_beq_eq_true e2; subst e2
      have e3 := Nat.eq_of_beq_eq_true e3; subst e3
      have e4 := Nat.eq_of_beq_eq_true e4; subst e4
      have e5 := Nat.eq_of_beq_eq_true e5; subst e5
      have e6 := Nat.eq_of_beq_eq_true e6; subst e6
      have e7 := Nat.eq_of_beq_eq_true e7; subst e7
      have e8 := Nat.eq_of_beq_eq_true e8; subst e8
      cases h
      exact mcs_loc kd ad fd w v st x2 x3 x4 x5 x6 x7 x8 M
    · cases h
  · cases h

/-- The program's memory. -/
noncomputable def memSpecs : List (FuncId × SP) := [(16, locSP mstSpec), (33, locSP mldSpec), (180, locSP mcsSpec)]
theorem memSpecs_ok : SPsOk Tryd.prog memSpecs := ⟨locSP_ok mstSpec_ok, locSP_ok mldSpec_ok, locSP_ok mcsSpec_ok, trivial⟩
end Go.Proofs.YtljeiencnpnbkaaDoor
