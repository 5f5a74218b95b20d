/-
  The document's memory: Load, Store, CAS.
-/
import Derived.Test.YtmndhjodbnojdaaDoorJRef2Def
set_option linter.unusedSimpArgs false
set_option linter.unusedVariables false
namespace Go.Proofs.YtmndhjodbnojdaaDoor
open Go.Ev
theorem rld_1 (kd ad fd : Int) (n l : Nat) (g : Nat → Nat → AV) (st c0 k0 a0 f0 w0 i0 : Int) (d0 : Bool) : callB EMR 2000 145 [AV.ptr 1 0 0, AV.agg [AV.sym IntKind.u8 kd, AV.sym IntKind.i64 ad, AV.sym IntKind.i64 fd]] (rldH kd ad fd n l g st c0 k0 a0 f0 w0 i0 d0) (rldR kd ad fd n l g st c0 k0 a0 f0 w0 i0 d0) [] [] =
 some ([dWord (dOf n g) kd ad fd = dWord (dOf n g) kd ad fd,
 (0 : Nat) = 0,
 n = n,
 (none : Option Nat) = none,
 IntKind.i64.wrap (st + 1) = IntKind.i64.wrap (st + 1),
 (1 : Int) = 1,
 kd = kd,
 ad = ad,
 fd = fd,
 dWord (dOf n g) kd ad fd = dWord (dOf n g) kd ad fd,
 dWord (dOf n g) kd ad fd = dWord (dOf n g) kd ad fd,
 false = false,
 false = false,
 l ≤ l,
 g = g ∧ plainSh wSh = true ∨ ∀ (i : Nat), i < l → rowOb wSh 0 (g i) (g i),
 n ≤ l,
 n ≤ 1000000]) := by kernel_rfl
theorem rld_loc (kd ad fd : Int) (n l : Nat) (g : Nat → Nat → AV) (st c0 k0 a0 f0 w0 i0 : Int) (d0 : Bool) : LocOk Tryd.prog 145 [.ptr 1 0 0, .agg [.sym .u8 kd, .sym .i64 ad, .sym .i64 fd]] (rldH kd ad fd n l g st c0 k0 a0 f0 w0 i0 d0) (rldR kd ad fd n l g st c0 k0 a0 f0 w0 i0 d0) := by
  refine loc_of_call EMR_ok (fun hp => ?_)
  have hl : n ≤ l := hp _ (List.mem_cons_self ..)
  have hm : n ≤ 1000000 := hp _ (List.mem_cons_of_mem _ (List.mem_cons_self ..))
  clear hp
  refine ⟨2000, _, _, _, rld_1 .., (ob_cons rfl (ob_cons rfl (ob_cons rfl (ob_cons rfl (ob_cons rfl (ob_cons rfl (ob_cons rfl (ob_cons rfl (ob_cons rfl (ob_cons rfl (ob_cons rfl (ob_cons rfl (ob_cons rfl (ob_cons (Nat.le_refl _) (ob_cons (.inl ⟨rfl, rfl⟩) (ob_cons ?_ (ob_cons ?_ ob_nil)))))))))))))))))⟩
  ·
    first | exact Nat.le_refl _ | omega | exact hl | exact hm | omega
  ·
    first | exact Nat.le_refl _ | omega | exact hl | exact hm | omega
noncomputable def rldSpec : LSpec := fun la lh => match la, lh with
  | [.ptr z1 z2 z3, .agg [.sym .u8 kd, .sym .i64 ad, .sym .i64 fd]], [(z4, .cells z5 [.ss z6 z7 z8 n none, .sym .i64 st, .sym .u8 c0, .sym .u8 k0, .sym .i64 a0, .sym .i64 f0, .sym .u64 w0, .sym .u64 i0, .symb d0]), (z9, .arr z10 z11 false l g)] =>
    match Nat.beq z1 1 && (Nat.beq z2 0 && (Nat.beq z3 0 && (Nat.beq z4 1 && (Nat.beq z5 9 && (Nat.beq z6 4 && (Nat.beq z7 2 && (Nat.beq z8 0 && (Nat.beq z9 2 && (Nat.beq z10 4 && (shBeq z11 wSh)))))))))) with
    | true => some (rldR kd ad fd n l g st c0 k0 a0 f0 w0 i0 d0)
    | false => none
  | _, _ => none
theorem rldSpec_ok (la : List AV) (lh : List (Nat × AO)) (R : LR) (h : rldSpec la lh = some R) : LocOk Tryd.prog 145 la lh R := by
  unfold rldSpec at h
  split at h
  · rename_i z1 z2 z3 kd ad fd z4 z5 z6 z7 z8 n st c0 k0 a0 f0 w0 i0 d0 z9 z10 z11 l g
    split at h
    · rename_i hb
      simp only [Bool.and_eq_true] at hb
      obtain ⟨e1, e2, e3, e4, e5, e6, e7, e8, e9, e10, e11⟩ := hb
      have e1 := Nat.eq_of_beq_eq_true e1; subst e1
      have e2 := Nat.eq_of_beq_eq_true e2; subst e2
      have e3 := Nat.eq_of_beq_eq_true e3; subst e3
      have e4 := Nat.eq_of_beq_eq_true e4; subst e4
      have e5 := Nat.eq_of_beq_eq_true e5; subst e5
      have e6 := Nat.eq_of_beq_eq_true e6; subst e6
      have e7 := Nat.eq_of_beq_eq_true e7; subst e7
      have e8 := Nat.eq_of_beq_eq_true e8; subst e8
      have e9 := Nat.eq_of_beq_eq_true e9; subst e9
      have e10 := Nat.eq_of_beq_eq_true e10; subst e10
      have e11 := shBeq_eq e11; subst e11
      cases h
      exact rld_loc kd ad fd n l g st c0 k0 a0 f0 w0 i0 d0
    · cases h
  · cases h

theorem rst_1 (kd ad fd v : Int) (n l : Nat) (g : Nat → Nat → AV) (st c0 k0 a0 f0 w0 i0 : Int) (d0 : Bool) : callB EMR 2000 95 [AV.ptr 1 0 0, AV.agg [AV.sym IntKind.u8 kd, AV.sym IntKind.i64 ad, AV.sym IntKind.i64 fd], AV.sym IntKind.u64 v] (rstH kd ad fd v n l g st c0 k0 a0 f0 w0 i0 d0) (rstR kd ad fd v n l g st c0 k0 a0 f0 w0 i0 d0) [(3, Src.nm 4)] [] =
 some ([(0 : Nat) = 0,
 (dPut (dOf n g) kd ad fd v).n = (dPut (dOf n g) kd ad fd v).n,
 (none : Option Nat) = none,
 IntKind.i64.wrap (st + 1) = IntKind.i64.wrap (st + 1),
 (2 : Int) = 2,
 kd = kd,
 ad = ad,
 fd = fd,
 dWord (dOf n g) kd ad fd = dWord (dOf n g) kd ad fd,
 dWord (dOf (dPut (dOf n g) kd ad fd v).n (wdF (dPut (dOf n g) kd ad fd v).W)) kd ad fd = dWord (dPut (dOf n g) kd ad fd v) kd ad fd,
 false = false,
 false = false,
 (dPut (dOf n g) kd ad fd v).n ≤ (dPut (dOf n g) kd ad fd v).n,
 wdF (dPut (dOf n g) kd ad fd v).W = wdF (dPut (dOf n g) kd ad fd v).W ∧ plainSh wSh = true ∨ ∀ (i : Nat), i < (dPut (dOf n g) kd ad fd v).n → rowOb wSh 0 (wdF (dPut (dOf n g) kd ad fd v).W i) (wdF (dPut (dOf n g) kd ad fd v).W i),
 (dPut (dOf n g) kd ad fd v).n ≤ (dPut (dOf n g) kd ad fd v).n,
 (dPut (dOf n g) kd ad fd v).n ≤ 1000000,
 n ≤ l,
 n ≤ 1000000,
 0 ≤ kd,
 n ≤ l,
 n ≤ 1000000]) := by kernel_rfl
theorem rst_loc (kd ad fd v : Int) (n l : Nat) (g : Nat → Nat → AV) (st c0 k0 a0 f0 w0 i0 : Int) (d0 : Bool) : LocOk Tryd.prog 95 [.ptr 1 0 0, .agg [.sym .u8 kd, .sym .i64 ad, .sym .i64 fd], .sym .u64 v] (rstH kd ad fd v n l g st c0 k0 a0 f0 w0 i0 d0) (rstR kd ad fd v n l g st c0 k0 a0 f0 w0 i0 d0) := by
  refine loc_of_call EMR_ok (fun hp => ?_)
  have hl : n ≤ l := hp _ (List.mem_cons_self ..)
  have hm : n ≤ 100000 := hp _ (List.mem_cons_of_mem _ (List.mem_cons_self ..))
  have hk0 : 0 ≤ kd := hp _ (List.mem_cons_of_mem _ (List.mem_cons_of_mem _ (List.mem_cons_self ..)))
  clear hp
  have hn1 := (dPut_n (dOf n g) kd ad fd v).1
  have hn2 : (dOf n g).n = n := rfl
  refine ⟨2000, _, _, _, rst_1 .., (ob_cons rfl (ob_cons rfl (ob_cons rfl (ob_cons rfl (ob_cons rfl (ob_cons rfl (ob_cons rfl (ob_cons rfl (ob_cons rfl (ob_cons ?_ (ob_cons rfl (ob_cons rfl (ob_cons (Nat.le_refl _) (ob_cons (.inl ⟨rfl, rfl⟩) (ob_cons (Nat.le_refl _) (ob_cons ?_ (ob_cons ?_ (ob_cons ?_ (ob_cons ?_ (ob_cons ?_ (ob_cons ?_ ob_nil)))))))))))))))))))))⟩
  ·
    first | rfl | exact hl | exact hm | exact hk0 | exact Nat.le_refl _ | rfl | exact .inl ⟨rfl, rfl⟩ | exact .inr (fun i hi => row_wd rfl) | omega
  ·
    first | exact Nat.le_refl _ | omega | exact hl | exact hm | exact hk0 | exact Nat.le_refl _ | rfl | exact .inl ⟨rfl, rfl⟩ | exact .inr (fun i hi => row_wd rfl) | omega
  ·
    first | exact Nat.le_refl _ | omega | exact hl | exact hm | exact hk0 | exact Nat.le_refl _ | rfl | exact .inl ⟨rfl, rfl⟩ | exact .inr (fun i hi => row_wd rfl) | omega
  ·
    first | exact Nat.le_refl _ | omega | exact hl | exact hm | exact hk0 | exact Nat.le_refl _ | rfl | exact .inl ⟨rfl, rfl⟩ | exact .inr (fun i hi => row_wd rfl) | omega
  ·
    first | exact Nat.le_refl _ | omega | exact hl | exact hm | exact hk0 | exact Nat.le_refl _ | rfl | exact .inl ⟨rfl, rfl⟩ | exact .inr (fun i hi => row_wd rfl) | omega
  ·
    first | exact Nat.le_refl _ | omega | exact hl | exact hm | exact hk0 | exact Nat.le_refl _ | rfl | exact .inl ⟨rfl, rfl⟩ | exact .inr (fun i hi => row_wd rfl) | omega
  ·
    first | exact Nat.le_refl _ | omega | exact hl | exact hm | exact hk0 | exact Nat.le_refl _ | rfl | exact .inl ⟨rfl, rfl⟩ | exact .inr (fun i hi => row_wd rfl) | omega
noncomputable def rstSpec : LSpec := fun la lh => match la, lh with
  | [.ptr z1 z2 z3, .agg [.sym .u8 kd, .sym .i64 ad, .sym .i64 fd], .sym .u64 v], [(z4, .cells z5 [.ss z6 z7 z8 n none, .sym .i64 st, .sym .u8 c0, .sym .u8 k0, .sym .i64 a0, .sym .i64 f0, .sym .u64 w0, .sym .u64 i0, .symb d0]), (z9, .arr z10 z11 false l g)] =>
    match Nat.beq z1 1 && (Nat.beq z2 0 && (Nat.beq z3 0 && (Nat.beq z4 1 && (Nat.beq z5 9 && (Nat.beq z6 4 && (Nat.beq z7 2 && (Nat.beq z8 0 && (Nat.beq z9 2 && (Nat.beq z10 4 && (shBeq z11 wSh)))))))))) with
    | true => some (rstR kd ad fd v n l g st c0 k0 a0 f0 w0 i0 d0)
    | false => none
  | _, _ => none
theorem rstSpec_ok (la : List AV) (lh : List (Nat × AO)) (R : LR) (h : rstSpec la lh = some R) : LocOk Tryd.prog 95 la lh R := by
  unfold rstSpec at h
  split at h
  · rename_i z1 z2 z3 kd ad fd v z4 z5 z6 z7 z8 n st c0 k0 a0 f0 w0 i0 d0 z9 z10 z11 l g
    split at h
    · rename_i hb
      simp only [Bool.and_eq_true] at hb
      obtain ⟨e1, e2, e3, e4, e5, e6, e7, e8, e9, e10, e11⟩ := hb
      have e1 := Nat.eq_of_beq_eq_true e1; subst e1
      have e2 := Nat.eq_of_beq_eq_true e2; subst e2
      have e3 := Nat.eq_of_beq_eq_true e3; subst e3
      have e4 := Nat.eq_of_beq_eq_true e4; subst e4
      have e5 := Nat.eq_of_beq_eq_true e5; subst e5
      have e6 := Nat.eq_of_beq_eq_true e6; subst e6
      have e7 := Nat.eq_of_beq_eq_true e7; subst e7
      have e8 := Nat.eq_of_beq_eq_true e8; subst e8
      have e9 := Nat.eq_of_beq_eq_true e9; subst e9
      have e10 := Nat.eq_of_beq_eq_true e10; subst e10
      have e11 := shBeq_eq e11; subst e11
      cases h
      exact rst_loc kd ad fd v n l g st c0 k0 a0 f0 w0 i0 d0
    · cases h
  · cases h

theorem rcs_1 (kd ad fd w v : Int) (n l : Nat) (g : Nat → Nat → AV) (st c0 k0 a0 f0 w0 i0 : Int) (d0 : Bool) : callB EMR 2000 146 [AV.ptr 1 0 0, AV.agg [AV.sym IntKind.u8 kd, AV.sym IntKind.i64 ad, AV.sym IntKind.i64 fd], AV.sym IntKind.u64 w, AV.sym IntKind.u64 v] (rcsH kd ad fd w v n l g st c0 k0 a0 f0 w0 i0 d0) (rcsR kd ad fd w v n l g st c0 k0 a0 f0 w0 i0 d0) [(3, Src.nm 4)] [Hint.b true, Hint.b true] =
 some ([mayA kd ad fd = dCasD (dOf n g) kd ad fd w,
 (0 : Nat) = 0,
 (dPut (dOf n g) kd ad fd v).n = (dCasM (dOf n g) kd ad fd w v).n,
 (none : Option Nat) = none,
 IntKind.i64.wrap (st + 1) = IntKind.i64.wrap (st + 1),
 (3 : Int) = 3,
 kd = kd,
 ad = ad,
 fd = fd,
 dWord (dOf n g) kd ad fd = dWord (dOf n g) kd ad fd,
 dWord (dOf (dPut (dOf n g) kd ad fd v).n (wdF (dPut (dOf n g) kd ad fd v).W)) kd ad fd = dWord (dCasM (dOf n g) kd ad fd w v) kd ad fd,
 mayA kd ad fd = dCasD (dOf n g) kd ad fd w,
 false = false,
 (dCasM (dOf n g) kd ad fd w v).n ≤ (dPut (dOf n g) kd ad fd v).n,
 wdF (dCasM (dOf n g) kd ad fd w v).W = wdF (dPut (dOf n g) kd ad fd v).W ∧ plainSh wSh = true ∨ ∀ (i : Nat), i < (dCasM (dOf n g) kd ad fd w v).n → rowOb wSh 0 (wdF (dPut (dOf n g) kd ad fd v).W i) (wdF (dCasM (dOf n g) kd ad fd w v).W i),
 (dPut (dOf n g) kd ad fd v).n ≤ (dPut (dOf n g) kd ad fd v).n,
 (dPut (dOf n g) kd ad fd v).n ≤ 1000000,
 n ≤ l,
 n ≤ 1000000,
 0 ≤ kd,
 mayA kd ad fd = true,
 0 ≤ kd,
 (dWord (dOf n g) kd ad fd == w) = true,
 n ≤ l,
 n ≤ 1000000]) := by kernel_rfl
theorem rcs_2 (kd ad fd w v : Int) (n l : Nat) (g : Nat → Nat → AV) (st c0 k0 a0 f0 w0 i0 : Int) (d0 : Bool) : callB EMR 2000 146 [AV.ptr 1 0 0, AV.agg [AV.sym IntKind.u8 kd, AV.sym IntKind.i64 ad, AV.sym IntKind.i64 fd], AV.sym IntKind.u64 w, AV.sym IntKind.u64 v] (rcsH kd ad fd w v n l g st c0 k0 a0 f0 w0 i0 d0) (rcsR kd ad fd w v n l g st c0 k0 a0 f0 w0 i0 d0) [(3, Src.nm 2)] [Hint.b true, Hint.b false] =
 some ([mayA kd ad fd = dCasD (dOf n g) kd ad fd w,
 (0 : Nat) = 0,
 n = (dCasM (dOf n g) kd ad fd w v).n,
 (none : Option Nat) = none,
 IntKind.i64.wrap (st + 1) = IntKind.i64.wrap (st + 1),
 (3 : Int) = 3,
 kd = kd,
 ad = ad,
 fd = fd,
 dWord (dOf n g) kd ad fd = dWord (dOf n g) kd ad fd,
 dWord (dOf n g) kd ad fd = dWord (dCasM (dOf n g) kd ad fd w v) kd ad fd,
 mayA kd ad fd = dCasD (dOf n g) kd ad fd w,
 false = false,
 (dCasM (dOf n g) kd ad fd w v).n ≤ l,
 wdF (dCasM (dOf n g) kd ad fd w v).W = g ∧ plainSh wSh = true ∨ ∀ (i : Nat), i < (dCasM (dOf n g) kd ad fd w v).n → rowOb wSh 0 (g i) (wdF (dCasM (dOf n g) kd ad fd w v).W i),
 n ≤ l,
 n ≤ 1000000,
 mayA kd ad fd = false,
 0 ≤ kd,
 (dWord (dOf n g) kd ad fd == w) = true,
 n ≤ l,
 n ≤ 1000000]) := by kernel_rfl
theorem rcs_3 (kd ad fd w v : Int) (n l : Nat) (g : Nat → Nat → AV) (st c0 k0 a0 f0 w0 i0 : Int) (d0 : Bool) : callB EMR 2000 146 [AV.ptr 1 0 0, AV.agg [AV.sym IntKind.u8 kd, AV.sym IntKind.i64 ad, AV.sym IntKind.i64 fd], AV.sym IntKind.u64 w, AV.sym IntKind.u64 v] (rcsH kd ad fd w v n l g st c0 k0 a0 f0 w0 i0 d0) (rcsR kd ad fd w v n l g st c0 k0 a0 f0 w0 i0 d0) [(3, Src.nm 2)] [Hint.b false] =
 some ([false = dCasD (dOf n g) kd ad fd w,
 (0 : Nat) = 0,
 n = (dCasM (dOf n g) kd ad fd w v).n,
 (none : Option Nat) = none,
 IntKind.i64.wrap (st + 1) = IntKind.i64.wrap (st + 1),
 (3 : Int) = 3,
 kd = kd,
 ad = ad,
 fd = fd,
 dWord (dOf n g) kd ad fd = dWord (dOf n g) kd ad fd,
 dWord (dOf n g) kd ad fd = dWord (dCasM (dOf n g) kd ad fd w v) kd ad fd,
 false = dCasD (dOf n g) kd ad fd w,
 false = false,
 (dCasM (dOf n g) kd ad fd w v).n ≤ l,
 wdF (dCasM (dOf n g) kd ad fd w v).W = g ∧ plainSh wSh = true ∨ ∀ (i : Nat), i < (dCasM (dOf n g) kd ad fd w v).n → rowOb wSh 0 (g i) (wdF (dCasM (dOf n g) kd ad fd w v).W i),
 n ≤ l,
 n ≤ 1000000,
 (dWord (dOf n g) kd ad fd == w) = false,
 n ≤ l,
 n ≤ 1000000]) := by kernel_rfl
theorem rcs_loc (kd ad fd w v : Int) (n l : Nat) (g : Nat → Nat → AV) (st c0 k0 a0 f0 w0 i0 : Int) (d0 : Bool) : LocOk Tryd.prog 146 [.ptr 1 0 0, .agg [.sym .u8 kd, .sym .i64 ad, .sym .i64 fd], .sym .u64 w, .sym .u64 v] (rcsH kd ad fd w v n l g st c0 k0 a0 f0 w0 i0 d0) (rcsR kd ad fd w v n l g st c0 k0 a0 f0 w0 i0 d0) := by
  refine loc_of_call EMR_ok (fun hp => ?_)
  have hl : n ≤ l := hp _ (List.mem_cons_self ..)
  have hm : n ≤ 100000 := hp _ (List.mem_cons_of_mem _ (List.mem_cons_self ..))
  have hk0 : 0 ≤ kd := hp _ (List.mem_cons_of_mem _ (List.mem_cons_of_mem _ (List.mem_cons_self ..)))
  clear hp
  have hn1 := (dPut_n (dOf n g) kd ad fd v).1
  have hn2 : (dOf n g).n = n := rfl
  cases h1 : (dWord (dOf n g) kd ad fd == w) with
  | true =>
    cases h2 : (mayA kd ad fd) with
    | true =>
      first | (have e1 : dCasD (dOf n g) kd ad fd w = true := by (unfold dCasD; simp only [h1, h2])) | (have e1 : dCasD (dOf n g) kd ad fd w = false := by (unfold dCasD; simp only [h1, h2]))
      first | (have e2 : dCasM (dOf n g) kd ad fd w v = dPut (dOf n g) kd ad fd v := by (unfold dCasM; rw [e1])) | (have e2 : dCasM (dOf n g) kd ad fd w v = dOf n g := by (unfold dCasM; rw [e1]))
      refine ⟨2000, _, _, _, rcs_1 .., (ob_cons ?_ (ob_cons rfl (ob_cons ?_ (ob_cons rfl (ob_cons rfl (ob_cons rfl (ob_cons rfl (ob_cons rfl (ob_cons rfl (ob_cons rfl (ob_cons ?_ (ob_cons ?_ (ob_cons rfl (ob_cons ?_ (ob_cons ?_ (ob_cons (Nat.le_refl _) (ob_cons ?_ (ob_cons ?_ (ob_cons ?_ (ob_cons ?_ (ob_cons h2 (ob_cons ?_ (ob_cons h1 (ob_cons ?_ (ob_cons ?_ ob_nil)))))))))))))))))))))))))⟩
      ·
        first | rfl | rfl | exact Nat.le_refl _ | exact hl | exact hm | exact hk0 | exact .inl ⟨rfl, rfl⟩ | exact .inr (fun i hi => row_wd rfl) | omega | (rw [e2]; first | rfl | exact Nat.le_refl _ | exact hl | exact hm | exact hk0 | exact .inl ⟨rfl, rfl⟩ | exact .inr (fun i hi => row_wd rfl) | omega) | (rw [e1]; first | rfl | exact Nat.le_refl _ | exact hl | exact hm | exact hk0 | exact .inl ⟨rfl, rfl⟩ | exact .inr (fun i hi => row_wd rfl) | omega | assumption) | (simp only [e1, e2]; done) | (simp only [e1, e2]; first | rfl | exact Nat.le_refl _ | exact hl | exact hm | exact hk0 | exact .inl ⟨rfl, rfl⟩ | exact .inr (fun i hi => row_wd rfl) | omega)
      ·
        first | rfl | rfl | exact Nat.le_refl _ | exact hl | exact hm | exact hk0 | exact .inl ⟨rfl, rfl⟩ | exact .inr (fun i hi => row_wd rfl) | omega | (rw [e2]; first | rfl | exact Nat.le_refl _ | exact hl | exact hm | exact hk0 | exact .inl ⟨rfl, rfl⟩ | exact .inr (fun i hi => row_wd rfl) | omega) | (rw [e1]; first | rfl | exact Nat.le_refl _ | exact hl | exact hm | exact hk0 | exact .inl ⟨rfl, rfl⟩ | exact .inr (fun i hi => row_wd rfl) | omega | assumption) | (simp only [e1, e2]; done) | (simp only [e1, e2]; first | rfl | exact Nat.le_refl _ | exact hl | exact hm | exact hk0 | exact .inl ⟨rfl, rfl⟩ | exact .inr (fun i hi => row_wd rfl) | omega)
      ·
        first | rfl | rfl | exact Nat.le_refl _ | exact hl | exact hm | exact hk0 | exact .inl ⟨rfl, rfl⟩ | exact .inr (fun i hi => row_wd rfl) | omega | (rw [e2]; first | rfl | exact Nat.le_refl _ | exact hl | exact hm | exact hk0 | exact .inl ⟨rfl, rfl⟩ | exact .inr (fun i hi => row_wd rfl) | omega) | (rw [e1]; first | rfl | exact Nat.le_refl _ | exact hl | exact hm | exact hk0 | exact .inl ⟨rfl, rfl⟩ | exact .inr (fun i hi => row_wd rfl) | omega | assumption) | (simp only [e1, e2]; done) | (simp only [e1, e2]; first | rfl | exact Nat.le_refl _ | exact hl | exact hm | exact hk0 | exact .inl ⟨rfl, rfl⟩ | exact .inr (fun i hi => row_wd rfl) | omega)
      ·
        first | rfl | rfl | exact Nat.le_refl _ | exact hl | exact hm | exact hk0 | exact .inl ⟨rfl, rfl⟩ | exact .inr (fun i hi => row_wd rfl) | omega | (rw [e2]; first | rfl | exact Nat.le_refl _ | exact hl | exact hm | exact hk0 | exact .inl ⟨rfl, rfl⟩ | exact .inr (fun i hi => row_wd rfl) | omega) | (rw [e1]; first | rfl | exact Nat.le_refl _ | exact hl | exact hm | exact hk0 | exact .inl ⟨rfl, rfl⟩ | exact .inr (fun i hi => row_wd rfl) | omega | assumption) | (simp only [e1, e2]; done) | (simp only [e1, e2]; first | rfl | exact Nat.le_refl _ | exact hl | exact hm | exact hk0 | exact .inl ⟨rfl, rfl⟩ | exact .inr (fun i hi => row_wd rfl) | omega)
      ·
        first | exact Nat.le_refl _ | omega | rfl | exact Nat.le_refl _ | exact hl | exact hm | exact hk0 | exact .inl ⟨rfl, rfl⟩ | exact .inr (fun i hi => row_wd rfl) | omega | (rw [e2]; first | rfl | exact Nat.le_refl _ | exact hl | exact hm | exact hk0 | exact .inl ⟨rfl, rfl⟩ | exact .inr (fun i hi => row_wd rfl) | omega) | (rw [e1]; first | rfl | exact Nat.le_refl _ | exact hl | exact hm | exact hk0 | exact .inl ⟨rfl, rfl⟩ | exact .inr (fun i hi => row_wd rfl) | omega | assumption) | (simp only [e1, e2]; done) | (simp only [e1, e2]; first | rfl | exact Nat.le_refl _ | exact hl | exact hm | exact hk0 | exact .inl ⟨rfl, rfl⟩ | exact .inr (fun i hi => row_wd rfl) | omega)
      ·
        first | exact .inl ⟨rfl, rfl⟩ | rfl | exact Nat.le_refl _ | exact hl | exact hm | exact hk0 | exact .inl ⟨rfl, rfl⟩ | exact .inr (fun i hi => row_wd rfl) | omega | (rw [e2]; first | rfl | exact Nat.le_refl _ | exact hl | exact hm | exact hk0 | exact .inl ⟨rfl, rfl⟩ | exact .inr (fun i hi => row_wd rfl) | omega) | (rw [e1]; first | rfl | exact Nat.le_refl _ | exact hl | exact hm | exact hk0 | exact .inl ⟨rfl, rfl⟩ | exact .inr (fun i hi => row_wd rfl) | omega | assumption) | (simp only [e1, e2]; done) | (simp only [e1, e2]; first | rfl | exact Nat.le_refl _ | exact hl | exact hm | exact hk0 | exact .inl ⟨rfl, rfl⟩ | exact .inr (fun i hi => row_wd rfl) | omega)
      ·
        first | exact Nat.le_refl _ | omega | rfl | exact Nat.le_refl _ | exact hl | exact hm | exact hk0 | exact .inl ⟨rfl, rfl⟩ | exact .inr (fun i hi => row_wd rfl) | omega | (rw [e2]; first | rfl | exact Nat.le_refl _ | exact hl | exact hm | exact hk0 | exact .inl ⟨rfl, rfl⟩ | exact .inr (fun i hi => row_wd rfl) | omega) | (rw [e1]; first | rfl | exact Nat.le_refl _ | exact hl | exact hm | exact hk0 | exact .inl ⟨rfl, rfl⟩ | exact .inr (fun i hi => row_wd rfl) | omega | assumption) | (simp only [e1, e2]; done) | (simp only [e1, e2]; first | rfl | exact Nat.le_refl _ | exact hl | exact hm | exact hk0 | exact .inl ⟨rfl, rfl⟩ | exact .inr (fun i hi => row_wd rfl) | omega)
      ·
        first | exact Nat.le_refl _ | omega | rfl | exact Nat.le_refl _ | exact hl | exact hm | exact hk0 | exact .inl ⟨rfl, rfl⟩ | exact .inr (fun i hi => row_wd rfl) | omega | (rw [e2]; first | rfl | exact Nat.le_refl _ | exact hl | exact hm | exact hk0 | exact .inl ⟨rfl, rfl⟩ | exact .inr (fun i hi => row_wd rfl) | omega) | (rw [e1]; first | rfl | exact Nat.le_refl _ | exact hl | exact hm | exact hk0 | exact .inl ⟨rfl, rfl⟩ | exact .inr (fun i hi => row_wd rfl) | omega | assumption) | (simp only [e1, e2]; done) | (simp only [e1, e2]; first | rfl | exact Nat.le_refl _ | exact hl | exact hm | exact hk0 | exact .inl ⟨rfl, rfl⟩ | exact .inr (fun i hi => row_wd rfl) | omega)
      ·
        first | exact Nat.le_refl _ | omega | rfl | exact Nat.le_refl _ | exact hl | exact hm | exact hk0 | exact .inl ⟨rfl, rfl⟩ | exact .inr (fun i hi => row_wd rfl) | omega | (rw [e2]; first | rfl | exact Nat.le_refl _ | exact hl | exact hm | exact hk0 | exact .inl ⟨rfl, rfl⟩ | exact .inr (fun i hi => row_wd rfl) | omega) | (rw [e1]; first | rfl | exact Nat.le_refl _ | exact hl | exact hm | exact hk0 | exact .inl ⟨rfl, rfl⟩ | exact .inr (fun i hi => row_wd rfl) | omega | assumption) | (simp only [e1, e2]; done) | (simp only [e1, e2]; first | rfl | exact Nat.le_refl _ | exact hl | exact hm | exact hk0 | exact .inl ⟨rfl, rfl⟩ | exact .inr (fun i hi => row_wd rfl) | omega)
      ·
        first | exact Nat.le_refl _ | omega | rfl | exact Nat.le_refl _ | exact hl | exact hm | exact hk0 | exact .inl ⟨rfl, rfl⟩ | exact .inr (fun i hi => row_wd rfl) | omega | (rw [e2]; first | rfl | exact Nat.le_refl _ | exact hl | exact hm | exact hk0 | exact .inl ⟨rfl, rfl⟩ | exact .inr (fun i hi => row_wd rfl) | omega) | (rw [e1]; first | rfl | exact Nat.le_refl _ | exact hl | exact hm | exact hk0 | exact .inl ⟨rfl, rfl⟩ | exact .inr (fun i hi => row_wd rfl) | omega | assumption) | (simp only [e1, e2]; done) | (simp only [e1, e2]; first | rfl | exact Nat.le_refl _ | exact hl | exact hm | exact hk0 | exact .inl ⟨rfl, rfl⟩ | exact .inr (fun i hi => row_wd rfl) | omega)
      ·
        first | exact Nat.le_refl _ | omega | rfl | exact Nat.le_refl _ | exact hl | exact hm | exact hk0 | exact .inl ⟨rfl, rfl⟩ | exact .inr (fun i hi => row_wd rfl) | omega | (rw [e2]; first | rfl | exact Nat.le_refl _ | exact hl | exact hm | exact hk0 | exact .inl ⟨rfl, rfl⟩ | exact .inr (fun i hi => row_wd rfl) | omega) | (rw [e1]; first | rfl | exact Nat.le_refl _ | exact hl | exact hm | exact hk0 | exact .inl ⟨rfl, rfl⟩ | exact .inr (fun i hi => row_wd rfl) | omega | assumption) | (simp only [e1, e2]; done) | (simp only [e1, e2]; first | rfl | exact Nat.le_refl _ | exact hl | exact hm | exact hk0 | exact .inl ⟨rfl, rfl⟩ | exact .inr (fun i hi => row_wd rfl) | omega)
      ·
        first | exact Nat.le_refl _ | omega | rfl | exact Nat.le_refl _ | exact hl | exact hm | exact hk0 | exact .inl ⟨rfl, rfl⟩ | exact .inr (fun i hi => row_wd rfl) | omega | (rw [e2]; first | rfl | exact Nat.le_refl _ | exact hl | exact hm | exact hk0 | exact .inl ⟨rfl, rfl⟩ | exact .inr (fun i hi => row_wd rfl) | omega) | (rw [e1]; first | rfl | exact Nat.le_refl _ | exact hl | exact hm | exact hk0 | exact .inl ⟨rfl, rfl⟩ | exact .inr (fun i hi => row_wd rfl) | omega | assumption) | (simp only [e1, e2]; done) | (simp only [e1, e2]; first | rfl | exact Nat.le_refl _ | exact hl | exact hm | exact hk0 | exact .inl ⟨rfl, rfl⟩ | exact .inr (fun i hi => row_wd rfl) | omega)
      ·
        first | exact Nat.le_refl _ | omega | rfl | exact Nat.le_refl _ | exact hl | exact hm | exact hk0 | exact .inl ⟨rfl, rfl⟩ | exact .inr (fun i hi => row_wd rfl) | omega | (rw [e2]; first | rfl | exact Nat.le_refl _ | exact hl | exact hm | exact hk0 | exact .inl ⟨rfl, rfl⟩ | exact .inr (fun i hi => row_wd rfl) | omega) | (rw [e1]; first | rfl | exact Nat.le_refl _ | exact hl | exact hm | exact hk0 | exact .inl ⟨rfl, rfl⟩ | exact .inr (fun i hi => row_wd rfl) | omega | assumption) | (simp only [e1, e2]; done) | (simp only [e1, e2]; first | rfl | exact Nat.le_refl _ | exact hl | exact hm | exact hk0 | exact .inl ⟨rfl, rfl⟩ | exact .inr (fun i hi => row_wd rfl) | omega)
    | false =>
      first | (have e1 : dCasD (dOf n g) kd ad fd w = true := by (unfold dCasD; simp only [h1, h2])) | (have e1 : dCasD (dOf n g) kd ad fd w = false := by (unfold dCasD; simp only [h1, h2]))
      first | (have e2 : dCasM (dOf n g) kd ad fd w v = dPut (dOf n g) kd ad fd v := by (unfold dCasM; rw [e1])) | (have e2 : dCasM (dOf n g) kd ad fd w v = dOf n g := by (unfold dCasM; rw [e1]))
      refine ⟨2000, _, _, _, rcs_2 .., (ob_cons ?_ (ob_cons rfl (ob_cons ?_ (ob_cons rfl (ob_cons rfl (ob_cons rfl (ob_cons rfl (ob_cons rfl (ob_cons rfl (ob_cons rfl (ob_cons ?_ (ob_cons ?_ (ob_cons rfl (ob_cons ?_ (ob_cons ?_ (ob_cons ?_ (ob_cons ?_ (ob_cons h2 (ob_cons ?_ (ob_cons h1 (ob_cons ?_ (ob_cons ?_ ob_nil))))))))))))))))))))))⟩
      ·
        first | rfl | rfl | exact Nat.le_refl _ | exact hl | exact hm | exact hk0 | exact .inl ⟨rfl, rfl⟩ | exact .inr (fun i hi => row_wd rfl) | omega | (rw [e2]; first | rfl | exact Nat.le_refl _ | exact hl | exact hm | exact hk0 | exact .inl ⟨rfl, rfl⟩ | exact .inr (fun i hi => row_wd rfl) | omega) | (rw [e1]; first | rfl | exact Nat.le_refl _ | exact hl | exact hm | exact hk0 | exact .inl ⟨rfl, rfl⟩ | exact .inr (fun i hi => row_wd rfl) | omega | assumption) | (simp only [e1, e2]; done) | (simp only [e1, e2]; first | rfl | exact Nat.le_refl _ | exact hl | exact hm | exact hk0 | exact .inl ⟨rfl, rfl⟩ | exact .inr (fun i hi => row_wd rfl) | omega)
      ·
        first | rfl | rfl | exact Nat.le_refl _ | exact hl | exact hm | exact hk0 | exact .inl ⟨rfl, rfl⟩ | exact .inr (fun i hi => row_wd rfl) | omega | (rw [e2]; first | rfl | exact Nat.le_refl _ | exact hl | exact hm | exact hk0 | exact .inl ⟨rfl, rfl⟩ | exact .inr (fun i hi => row_wd rfl) | omega) | (rw [e1]; first | rfl | exact Nat.le_refl _ | exact hl | exact hm | exact hk0 | exact .inl ⟨rfl, rfl⟩ | exact .inr (fun i hi => row_wd rfl) | omega | assumption) | (simp only [e1, e2]; done) | (simp only [e1, e2]; first | rfl | exact Nat.le_refl _ | exact hl | exact hm | exact hk0 | exact .inl ⟨rfl, rfl⟩ | exact .inr (fun i hi => row_wd rfl) | omega)
      ·
        first | rfl | rfl | exact Nat.le_refl _ | exact hl | exact hm | exact hk0 | exact .inl ⟨rfl, rfl⟩ | exact .inr (fun i hi => row_wd rfl) | omega | (rw [e2]; first | rfl | exact Nat.le_refl _ | exact hl | exact hm | exact hk0 | exact .inl ⟨rfl, rfl⟩ | exact .inr (fun i hi => row_wd rfl) | omega) | (rw [e1]; first | rfl | exact Nat.le_refl _ | exact hl | exact hm | exact hk0 | exact .inl ⟨rfl, rfl⟩ | exact .inr (fun i hi => row_wd rfl) | omega | assumption) | (simp only [e1, e2]; done) | (simp only [e1, e2]; first | rfl | exact Nat.le_refl _ | exact hl | exact hm | exact hk0 | exact .inl ⟨rfl, rfl⟩ | exact .inr (fun i hi => row_wd rfl) | omega)
      ·
        first | rfl | rfl | exact Nat.le_refl _ | exact hl | exact hm | exact hk0 | exact .inl ⟨rfl, rfl⟩ | exact .inr (fun i hi => row_wd rfl) | omega | (rw [e2]; first | rfl | exact Nat.le_refl _ | exact hl | exact hm | exact hk0 | exact .inl ⟨rfl, rfl⟩ | exact .inr (fun i hi => row_wd rfl) | omega) | (rw [e1]; first | rfl | exact Nat.le_refl _ | exact hl | exact hm | exact hk0 | exact .inl ⟨rfl, rfl⟩ | exact .inr (fun i hi => row_wd rfl) | omega | assumption) | (simp only [e1, e2]; done) | (simp only [e1, e2]; first | rfl | exact Nat.le_refl _ | exact hl | exact hm | exact hk0 | exact .inl ⟨rfl, rfl⟩ | exact .inr (fun i hi => row_wd rfl) | omega)
      ·
        first | exact Nat.le_refl _ | omega | rfl | exact Nat.le_refl _ | exact hl | exact hm | exact hk0 | exact .inl ⟨rfl, rfl⟩ | exact .inr (fun i hi => row_wd rfl) | omega | (rw [e2]; first | rfl | exact Nat.le_refl _ | exact hl | exact hm | exact hk0 | exact .inl ⟨rfl, rfl⟩ | exact .inr (fun i hi => row_wd rfl) | omega) | (rw [e1]; first | rfl | exact Nat.le_refl _ | exact hl | exact hm | exact hk0 | exact .inl ⟨rfl, rfl⟩ | exact .inr (fun i hi => row_wd rfl) | omega | assumption) | (simp only [e1, e2]; done) | (simp only [e1, e2]; first | rfl | exact Nat.le_refl _ | exact hl | exact hm | exact hk0 | exact .inl ⟨rfl, rfl⟩ | exact .inr (fun i hi => row_wd rfl) | omega)
      ·
        first | exact .inl ⟨rfl, rfl⟩ | rfl | exact Nat.le_refl _ | exact hl | exact hm | exact hk0 | exact .inl ⟨rfl, rfl⟩ | exact .inr (fun i hi => row_wd rfl) | omega | (rw [e2]; first | rfl | exact Nat.le_refl _ | exact hl | exact hm | exact hk0 | exact .inl ⟨rfl, rfl⟩ | exact .inr (fun i hi => row_wd rfl) | omega) | (rw [e1]; first | rfl | exact Nat.le_refl _ | exact hl | exact hm | exact hk0 | exact .inl ⟨rfl, rfl⟩ | exact .inr (fun i hi => row_wd rfl) | omega | assumption) | (simp only [e1, e2]; done) | (simp only [e1, e2]; first | rfl | exact Nat.le_refl _ | exact hl | exact hm | exact hk0 | exact .inl ⟨rfl, rfl⟩ | exact .inr (fun i hi => row_wd rfl) | omega)
      ·
        first | exact Nat.le_refl _ | omega | rfl | exact Nat.le_refl _ | exact hl | exact hm | exact hk0 | exact .inl ⟨rfl, rfl⟩ | exact .inr (fun i hi => row_wd rfl) | omega | (rw [e2]; first | rfl | exact Nat.le_refl _ | exact hl | exact hm | exact hk0 | exact .inl ⟨rfl, rfl⟩ | exact .inr (fun i hi => row_wd rfl) | omega) | (rw [e1]; first | rfl | exact Nat.le_refl _ | exact hl | exact hm | exact hk0 | exact .inl ⟨rfl, rfl⟩ | exact .inr (fun i hi => row_wd rfl) | omega | assumption) | (simp only [e1, e2]; done) | (simp only [e1, e2]; first | rfl | exact Nat.le_refl _ | exact hl | exact hm | exact hk0 | exact .inl ⟨rfl, rfl⟩ | exact .inr (fun i hi => row_wd rfl) | omega)
      ·
        first | exact Nat.le_refl _ | omega | rfl | exact Nat.le_refl _ | exact hl | exact hm | exact hk0 | exact .inl ⟨rfl, rfl⟩ | exact .inr (fun i hi => row_wd rfl) | omega | (rw [e2]; first | rfl | exact Nat.le_refl _ | exact hl | exact hm | exact hk0 | exact .inl ⟨rfl, rfl⟩ | exact .inr (fun i hi => row_wd rfl) | omega) | (rw [e1]; first | rfl | exact Nat.le_refl _ | exact hl | exact hm | exact hk0 | exact .inl ⟨rfl, rfl⟩ | exact .inr (fun i hi => row_wd rfl) | omega | assumption) | (simp only [e1, e2]; done) | (simp only [e1, e2]; first | rfl | exact Nat.le_refl _ | exact hl | exact hm | exact hk0 | exact .inl ⟨rfl, rfl⟩ | exact .inr (fun i hi => row_wd rfl) | omega)
      ·
        first | exact Nat.le_refl _ | omega | rfl | exact Nat.le_refl _ | exact hl | exact hm | exact hk0 | exact .inl ⟨rfl, rfl⟩ | exact .inr (fun i hi => row_wd rfl) | omega | (rw [e2]; first | rfl | exact Nat.le_refl _ | exact hl | exact hm | exact hk0 | exact .inl ⟨rfl, rfl⟩ | exact .inr (fun i hi => row_wd rfl) | omega) | (rw [e1]; first | rfl | exact Nat.le_refl _ | exact hl | exact hm | exact hk0 | exact .inl ⟨rfl, rfl⟩ | exact .inr (fun i hi => row_wd rfl) | omega | assumption) | (simp only [e1, e2]; done) | (simp only [e1, e2]; first | rfl | exact Nat.le_refl _ | exact hl | exact hm | exact hk0 | exact .inl ⟨rfl, rfl⟩ | exact .inr (fun i hi => row_wd rfl) | omega)
      ·
        first | exact Nat.le_refl _ | omega | rfl | exact Nat.le_refl _ | exact hl | exact hm | exact hk0 | exact .inl ⟨rfl, rfl⟩ | exact .inr (fun i hi => row_wd rfl) | omega | (rw [e2]; first | rfl | exact Nat.le_refl _ | exact hl | exact hm | exact hk0 | exact .inl ⟨rfl, rfl⟩ | exact .inr (fun i hi => row_wd rfl) | omega) | (rw [e1]; first | rfl | exact Nat.le_refl _ | exact hl | exact hm | exact hk0 | exact .inl ⟨rfl, rfl⟩ | exact .inr (fun i hi => row_wd rfl) | omega | assumption) | (simp only [e1, e2]; done) | (simp only [e1, e2]; first | rfl | exact Nat.le_refl _ | exact hl | exact hm | exact hk0 | exact .inl ⟨rfl, rfl⟩ | exact .inr (fun i hi => row_wd rfl) | omega)
      ·
        first | exact Nat.le_refl _ | omega | rfl | exact Nat.le_refl _ | exact hl | exact hm | exact hk0 | exact .inl ⟨rfl, rfl⟩ | exact .inr (fun i hi => row_wd rfl) | omega | (rw [e2]; first | rfl | exact Nat.le_refl _ | exact hl | exact hm | exact hk0 | exact .inl ⟨rfl, rfl⟩ | exact .inr (fun i hi => row_wd rfl) | omega) | (rw [e1]; first | rfl | exact Nat.le_refl _ | exact hl | exact hm | exact hk0 | exact .inl ⟨rfl, rfl⟩ | exact .inr (fun i hi => row_wd rfl) | omega | assumption) | (simp only [e1, e2]; done) | (simp only [e1, e2]; first | rfl | exact Nat.le_refl _ | exact hl | exact hm | exact hk0 | exact .inl ⟨rfl, rfl⟩ | exact .inr (fun i hi => row_wd rfl) | omega)
  | false =>
    first | (have e1 : dCasD (dOf n g) kd ad fd w = true := by (unfold dCasD; simp only [h1])) | (have e1 : dCasD (dOf n g) kd ad fd w = false := by (unfold dCasD; simp only [h1]))
    first | (have e2 : dCasM (dOf n g) kd ad fd w v = dPut (dOf n g) kd ad fd v := by (unfold dCasM; rw [e1])) | (have e2 : dCasM (dOf n g) kd ad fd w v = dOf n g := by (unfold dCasM; rw [e1]))
    refine ⟨2000, _, _, _, rcs_3 .., (ob_cons ?_ (ob_cons rfl (ob_cons ?_ (ob_cons rfl (ob_cons rfl (ob_cons rfl (ob_cons rfl (ob_cons rfl (ob_cons rfl (ob_cons rfl (ob_cons ?_ (ob_cons ?_ (ob_cons rfl (ob_cons ?_ (ob_cons ?_ (ob_cons ?_ (ob_cons ?_ (ob_cons h1 (ob_cons ?_ (ob_cons ?_ ob_nil))))))))))))))))))))⟩
    ·
      first | rfl | rfl | exact Nat.le_refl _ | exact hl | exact hm | exact hk0 | exact .inl ⟨rfl, rfl⟩ | exact .inr (fun i hi => row_wd rfl) | omega | (rw [e2]; first | rfl | exact Nat.le_refl _ | exact hl | exact hm | exact hk0 | exact .inl ⟨rfl, rfl⟩ | exact .inr (fun i hi => row_wd rfl) | omega) | (rw [e1]; first | rfl | exact Nat.le_refl _ | exact hl | exact hm | exact hk0 | exact .inl ⟨rfl, rfl⟩ | exact .inr (fun i hi => row_wd rfl) | omega | assumption) | (simp only [e1, e2]; done) | (simp only [e1, e2]; first | rfl | exact Nat.le_refl _ | exact hl | exact hm | exact hk0 | exact .inl ⟨rfl, rfl⟩ | exact .inr (fun i hi => row_wd rfl) | omega)
    ·
      first | rfl | rfl | exact Nat.le_refl _ | exact hl | exact hm | exact hk0 | exact .inl ⟨rfl, rfl⟩ | exact .inr (fun i hi => row_wd rfl) | omega | (rw [e2]; first | rfl | exact Nat.le_refl _ | exact hl | exact hm | exact hk0 | exact .inl ⟨rfl, rfl⟩ | exact .inr (fun i hi => row_wd rfl) | omega) | (rw [e1]; first | rfl | exact Nat.le_refl _ | exact hl | exact hm | exact hk0 | exact .inl ⟨rfl, rfl⟩ | exact .inr (fun i hi => row_wd rfl) | omega | assumption) | (simp only [e1, e2]; done) | (simp only [e1, e2]; first | rfl | exact Nat.le_refl _ | exact hl | exact hm | exact hk0 | exact .inl ⟨rfl, rfl⟩ | exact .inr (fun i hi => row_wd rfl) | omega)
    ·
      first | rfl | rfl | exact Nat.le_refl _ | exact hl | exact hm | exact hk0 | exact .inl ⟨rfl, rfl⟩ | exact .inr (fun i hi => row_wd rfl) | omega | (rw [e2]; first | rfl | exact Nat.le_refl _ | exact hl | exact hm | exact hk0 | exact .inl ⟨rfl, rfl⟩ | exact .inr (fun i hi => row_wd rfl) | omega) | (rw [e1]; first | rfl | exact Nat.le_refl _ | exact hl | exact hm | exact hk0 | exact .inl ⟨rfl, rfl⟩ | exact .inr (fun i hi => row_wd rfl) | omega | assumption) | (simp only [e1, e2]; done) | (simp only [e1, e2]; first | rfl | exact Nat.le_refl _ | exact hl | exact hm | exact hk0 | exact .inl ⟨rfl, rfl⟩ | exact .inr (fun i hi => row_wd rfl) | omega)
    ·
      first | rfl | rfl | exact Nat.le_refl _ | exact hl | exact hm | exact hk0 | exact .inl ⟨rfl, rfl⟩ | exact .inr (fun i hi => row_wd rfl) | omega | (rw [e2]; first | rfl | exact Nat.le_refl _ | exact hl | exact hm | exact hk0 | exact .inl ⟨rfl, rfl⟩ | exact .inr (fun i hi => row_wd rfl) | omega) | (rw [e1]; first | rfl | exact Nat.le_refl _ | exact hl | exact hm | exact hk0 | exact .inl ⟨rfl, rfl⟩ | exact .inr (fun i hi => row_wd rfl) | omega | assumption) | (simp only [e1, e2]; done) | (simp only [e1, e2]; first | rfl | exact Nat.le_refl _ | exact hl | exact hm | exact hk0 | exact .inl ⟨rfl, rfl⟩ | exact .inr (fun i hi => row_wd rfl) | omega)
    ·
      first | exact Nat.le_refl _ | omega | rfl | exact Nat.le_refl _ | exact hl | exact hm | exact hk0 | exact .inl ⟨rfl, rfl⟩ | exact .inr (fun i hi => row_wd rfl) | omega | (rw [e2]; first | rfl | exact Nat.le_refl _ | exact hl | exact hm | exact hk0 | exact .inl ⟨rfl, rfl⟩ | exact .inr (fun i hi => row_wd rfl) | omega) | (rw [e1]; first | rfl | exact Nat.le_refl _ | exact hl | exact hm | exact hk0 | exact .inl ⟨rfl, rfl⟩ | exact .inr (fun i hi => row_wd rfl) | omega | assumption) | (simp only [e1, e2]; done) | (simp only [e1, e2]; first | rfl | exact Nat.le_refl _ | exact hl | exact hm | exact hk0 | exact .inl ⟨rfl, rfl⟩ | exact .inr (fun i hi => row_wd rfl) | omega)
    ·
      first | exact .inl ⟨rfl, rfl⟩ | rfl | exact Nat.le_refl _ | exact hl | exact hm | exact hk0 | exact .inl ⟨rfl, rfl⟩ | exact .inr (fun i hi => row_wd rfl) | omega | (rw [e2]; first | rfl | exact Nat.le_refl _ | exact hl | exact hm | exact hk0 | exact .inl ⟨rfl, rfl⟩ | exact .inr (fun i hi => row_wd rfl) | omega) | (rw [e1]; first | rfl | exact Nat.le_refl _ | exact hl | exact hm | exact hk0 | exact .inl ⟨rfl, rfl⟩ | exact .inr (fun i hi => row_wd rfl) | omega | assumption) | (simp only [e1, e2]; done) | (simp only [e1, e2]; first | rfl | exact Nat.le_refl _ | exact hl | exact hm | exact hk0 | exact .inl ⟨rfl, rfl⟩ | exact .inr (fun i hi => row_wd rfl) | omega)
    ·
      first | exact Nat.le_refl _ | omega | rfl | exact Nat.le_refl _ | exact hl | exact hm | exact hk0 | exact .inl ⟨rfl, rfl⟩ | exact .inr (fun i hi => row_wd rfl) | omega | (rw [e2]; first | rfl | exact Nat.le_refl _ | exact hl | exact hm | exact hk0 | exact .inl ⟨rfl, rfl⟩ | exact .inr (fun i hi => row_wd rfl) | omega) | (rw [e1]; first | rfl | exact Nat.le_refl _ | exact hl | exact hm | exact hk0 | exact .inl ⟨rfl, rfl⟩ | exact .inr (fun i hi => row_wd rfl) | omega | assumption) | (simp only [e1, e2]; done) | (simp only [e1, e2]; first | rfl | exact Nat.le_refl _ | exact hl | exact hm | exact hk0 | exact .inl ⟨rfl, rfl⟩ | exact .inr (fun i hi => row_wd rfl) | omega)
    ·
      first | exact Nat.le_refl _ | omega | rfl | exact Nat.le_refl _ | exact hl | exact hm | exact hk0 | exact .inl ⟨rfl, rfl⟩ | exact .inr (fun i hi => row_wd rfl) | omega | (rw [e2]; first | rfl | exact Nat.le_refl _ | exact hl | exact hm | exact hk0 | exact .inl ⟨rfl, rfl⟩ | exact .inr (fun i hi => row_wd rfl) | omega) | (rw [e1]; first | rfl | exact Nat.le_refl _ | exact hl | exact hm | exact hk0 | exact .inl ⟨rfl, rfl⟩ | exact .inr (fun i hi => row_wd rfl) | omega | assumption) | (simp only [e1, e2]; done) | (simp only [e1, e2]; first | rfl | exact Nat.le_refl _ | exact hl | exact hm | exact hk0 | exact .inl ⟨rfl, rfl⟩ | exact .inr (fun i hi => row_wd rfl) | omega)
    ·
      first | exact Nat.le_refl _ | omega | rfl | exact Nat.le_refl _ | exact hl | exact hm | exact hk0 | exact .inl ⟨rfl, rfl⟩ | exact .inr (fun i hi => row_wd rfl) | omega | (rw [e2]; first | rfl | exact Nat.le_refl _ | exact hl | exact hm | exact hk0 | exact .inl ⟨rfl, rfl⟩ | exact .inr (fun i hi => row_wd rfl) | omega) | (rw [e1]; first | rfl | exact Nat.le_refl _ | exact hl | exact hm | exact hk0 | exact .inl ⟨rfl, rfl⟩ | exact .inr (fun i hi => row_wd rfl) | omega | assumption) | (simp only [e1, e2]; done) | (simp only [e1, e2]; first | rfl | exact Nat.le_refl _ | exact hl | exact hm | exact hk0 | exact .inl ⟨rfl, rfl⟩ | exact .inr (fun i hi => row_wd rfl) | omega)
    ·
      first | exact Nat.le_refl _ | omega | rfl | exact Nat.le_refl _ | exact hl | exact hm | exact hk0 | exact .inl ⟨rfl, rfl⟩ | exact .inr (fun i hi => row_wd rfl) | omega | (rw [e2]; first | rfl | exact Nat.le_refl _ | exact hl | exact hm | exact hk0 | exact .inl ⟨rfl, rfl⟩ | exact .inr (fun i hi => row_wd rfl) | omega) | (rw [e1]; first | rfl | exact Nat.le_refl _ | exact hl | exact hm | exact hk0 | exact .inl ⟨rfl, rfl⟩ | exact .inr (fun i hi => row_wd rfl) | omega | assumption) | (simp only [e1, e2]; done) | (simp only [e1, e2]; first | rfl | exact Nat.le_refl _ | exact hl | exact hm | exact hk0 | exact .inl ⟨rfl, rfl⟩ | exact .inr (fun i hi => row_wd rfl) | omega)
noncomputable def rcsSpec : LSpec := fun la lh => match la, lh with
  | [.ptr z1 z2 z3, .agg [.sym .u8 kd, .sym .i64 ad, .sym .i64 fd], .sym .u64 w, .sym .u64 v], [(z4, .cells z5 [.ss z6 z7 z8 n none, .sym .i64 st, .sym .u8 c0, .sym .u8 k0, .sym .i64 a0, .sym .i64 f0, .sym .u64 w0, .sym .u64 i0, .symb d0]), (z9, .arr z10 z11 false l g)] =>
    match Nat.beq z1 1 && (Nat.beq z2 0 && (Nat.beq z3 0 && (Nat.beq z4 1 && (Nat.beq z5 9 && (Nat.beq z6 4 && (Nat.beq z7 2 && (Nat.beq z8 0 && (Nat.beq z9 2 && (Nat.beq z10 4 && (shBeq z11 wSh)))))))))) with
    | true => some (rcsR kd ad fd w v n l g st c0 k0 a0 f0 w0 i0 d0)
    | false => none
  | _, _ => none
theorem rcsSpec_ok (la : List AV) (lh : List (Nat × AO)) (R : LR) (h : rcsSpec la lh = some R) : LocOk Tryd.prog 146 la lh R := by
  unfold rcsSpec at h
  split at h
  · rename_i z1 z2 z3 kd ad fd w v z4 z5 z6 z7 z8 n st c0 k0 a0 f0 w0 i0 d0 z9 z10 z11 l g
    split at h
    · rename_i hb
      simp only [Bool.and_eq_true] at hb
      obtain ⟨e1, e2, e3, e4, e5, e6, e7, e8, e9, e10, e11⟩ := hb
      have e1 := Nat.eq_of_beq_eq_true e1; subst e1
      have e2 := Nat.eq_of_beq_eq_true e2; subst e2
      have e3 := Nat.eq_of_beq_eq_true e3; subst e3
      have e4 := Nat.eq_of_beq_eq_true e4; subst e4
      have e5 := Nat.eq_of_beq_eq_true e5; subst e5
      have e6 := Nat.eq_of_beq_eq_true e6; subst e6
      have e7 := Nat.eq_of_beq_eq_true e7; subst e7
      have e8 := Nat.eq_of_beq_eq_true e8; subst e8
      have e9 := Nat.eq_of_beq_eq_true e9; subst e9
      have e10 := Nat.eq_of_beq_eq_true e10; subst e10
      have e11 := shBeq_eq e11; subst e11
      cases h
      exact rcs_loc kd ad fd w v n l g st c0 k0 a0 f0 w0 i0 d0
    · cases h
  · cases h

end Go.Proofs.YtmndhjodbnojdaaDoor
