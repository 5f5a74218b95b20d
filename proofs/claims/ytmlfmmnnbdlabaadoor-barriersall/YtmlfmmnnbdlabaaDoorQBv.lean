/-
  Barriers: a step at a word: contracts, as an environment has them.
-/
import Derived.Test.YtmlfmmnnbdlabaaDoorQBu
set_option linter.unusedSimpArgs false
set_option linter.unusedVariables false
namespace Go.Proofs.YtmlfmmnnbdlabaaDoor
open Go.Ev
/-- One of two contracts, by a hint '.n 0' or '.n 1'. -/
def altN (s t : LSpec) : SP := fun args h => match h.hints with
  | .n c :: r => match c with
    | 0 => applyLoc (nrm s) args { h with hints := r }
    | _ => applyLoc (nrm t) args { h with hints := r }
  | _ => none
theorem altN_ok {P : Program} {f : FuncId} {s t : LSpec} (hs : SpecOk P f s) (ht : SpecOk P f t) : SPOk P f (altN s t) := by
  intro args h v h' e
  unfold altN at e
  split at e
  · rename_i c r hr
    split at e
    · have o := applyLoc_ok (nrm_ok hs) e
      exact ⟨⟨o.mono.ob, o.mono.nxt, o.mono.hi, o.mono.wr⟩, fun ho ρ w hr hf hg xs hx => (o.wp ho ρ w hr hf hg xs hx).mono fun e w' ⟨x, ρ', a, b, c⟩ => ⟨x, ρ', a, b, ⟨c.le, c.new, c.rep, c.fr, c.own⟩⟩⟩
    · have o := applyLoc_ok (nrm_ok ht) e
      exact ⟨⟨o.mono.ob, o.mono.nxt, o.mono.hi, o.mono.wr⟩, fun ho ρ w hr hf hg xs hx => (o.wp ho ρ w hr hf hg xs hx).mono fun e w' ⟨x, ρ', a, b, c⟩ => ⟨x, ρ', a, b, ⟨c.le, c.new, c.rep, c.fr, c.own⟩⟩⟩
  · cases e
noncomputable def bscG (m1 m2 : Bool) (nb lk th al at_ wt en : Int) (M : List Int → Option Int) (st c0 k0 a0 f0 w0 i0 : Int) (d0 : Bool) (FT : Nat → Nat → AV) : LR := ⟨3, (bscR nb lk th al at_ wt en ⟨M, st, ⟨c0, k0, a0, f0, w0, i0, d0⟩⟩ FT).v, (bscR nb lk th al at_ wt en ⟨M, st, ⟨c0, k0, a0, f0, w0, i0, d0⟩⟩ FT).heap, 0, [1, 2, 3], (m1 = true) :: (m2 = true) :: (bscR nb lk th al at_ wt en ⟨M, st, ⟨c0, k0, a0, f0, w0, i0, d0⟩⟩ FT).ob⟩
theorem bscG_loc (m1 m2 : Bool) (nb lk th al at_ wt en : Int) (M : List Int → Option Int) (st c0 k0 a0 f0 w0 i0 : Int) (d0 : Bool) (FT : Nat → Nat → AV) : LocOk Tryd.prog 11 [.ptr 1 0 0, .ptr 2 0 0] [(gnm 0, .arr tab.length (tab.map kindOfV) true 1 FT), (1, .cells 9 [.symb m1, .symb m2, .sym .u64 nb, .sym .i64 lk, .sym .i64 th, .sym .i64 al, .sym .i64 at_, .sym .i64 wt, .sym .i64 en]), (2, .cells 9 (.map 3 :: .sym .i64 st :: [.sym .u8 c0, .sym .u8 k0, .sym .i64 a0, .sym .i64 f0, .sym .u64 w0, .sym .u64 i0, .symb d0])), (3, .map 76 M)] (bscG m1 m2 nb lk th al at_ wt en M st c0 k0 a0 f0 w0 i0 d0 FT) := by
  intro ρ w hob
  have e1 : m1 = true := hob _ (List.mem_cons_self ..)
  have e2 : m2 = true := hob _ (List.mem_cons_of_mem _ (List.mem_cons_self ..))
  subst e1; subst e2
  exact bsc_loc nb lk th al at_ wt en ⟨M, st, ⟨c0, k0, a0, f0, w0, i0, d0⟩⟩ FT ρ w (fun p hp => hob p (List.mem_cons_of_mem _ (List.mem_cons_of_mem _ hp)))
noncomputable def bscSpec : LSpec := fun la lh => match la, lh with
  | [.ptr z1 z2 z3, .ptr z4 z5 z6], [(zt, .arr nt sht rot lent FT), (z7, .cells z8 [.symb m1, .symb m2, .sym .u64 nb, .sym .i64 lk, .sym .i64 th, .sym .i64 al, .sym .i64 at_, .sym .i64 wt, .sym .i64 en]), (z9, .cells z10 (.map z11 :: .sym .i64 st :: [.sym .u8 c0, .sym .u8 k0, .sym .i64 a0, .sym .i64 f0, .sym .u64 w0, .sym .u64 i0, .symb d0])), (z12, .map z13 M)] =>
    match (Nat.beq zt (gnm 0) && (Nat.beq nt tab.length && (shBeq sht (tab.map kindOfV) && (rot && Nat.beq lent 1)))) && (Nat.beq z1 1 && (Nat.beq z2 0 && (Nat.beq z3 0 && (Nat.beq z4 2 && (Nat.beq z5 0 && (Nat.beq z6 0 && (Nat.beq z7 1 && (Nat.beq z8 9 && (Nat.beq z9 2 && (Nat.beq z10 9 && (Nat.beq z11 3 && (Nat.beq z12 3 && (Nat.beq z13 76))))))))))))) with
    | true => some (bscG m1 m2 nb lk th al at_ wt en M st c0 k0 a0 f0 w0 i0 d0 FT)
    | false => none
  | _, _ => none
theorem bscSpec_ok (la : List AV) (lh : List (Nat × AO)) (R : LR) (h : bscSpec la lh = some R) : LocOk Tryd.prog 11 la lh R := by
  unfold bscSpec at h
  split at h
  · rename_i z1 z2 z3 z4 z5 z6 zt nt sht rot lent FT z7 z8 m1 m2 nb lk th al at_ wt en z9 z10 z11 st c0 k0 a0 f0 w0 i0 d0 z12 z13 M
    split at h
    · rename_i hb
      simp only [Bool.and_eq_true] at hb
      obtain ⟨⟨t1, t2, t3, t4, t5⟩, e1, e2, e3, e4, e5, e6, e7, e8, e9, e10, e11, e12, e13⟩ := hb
      have t1 := Nat.eq_of_beq_eq_true t1; subst t1
      have t2 := Nat.eq_of_beq_eq_true t2; subst t2
      have t3 := shBeq_eq t3; subst t3
      subst t4
      have t5 := Nat.eq_of_beq_eq_true t5; subst t5
      have e1 := Nat.eq_of_beq_eq_true e1; subst e1
      have e2 := Nat.eq_of_beq_eq_true e2; subst e2
      have e3 := Nat.eq_of_beq_eq_true e3; subst e3
      have e4 := Nat.eq_of_beq_eq_true e4; subst e4
      have e5 := Nat.eq_of_beq_eq_true e5; subst e5
      have e6 := Nat.eq_of_beq_eq_true e6; subst e6
      have e7 := Nat.eq_of_beq_eq_true e7; subst e7
      have e8 := Nat.eq_of_beq_eq_true e8; subst e8
      have e9 := Nat.eq_of_beq_eq_true e9; subst e9
      have e10 := Nat.eq_of_beq_eq_true e10; subst e10
      have e11 := Nat.eq_of_beq_eq_true e11; subst e11
      have e12 := Nat.eq_of_beq_eq_true e12; subst e12
      have e13 := Nat.eq_of_beq_eq_true e13; subst e13
      cases h
      exact bscG_loc m1 m2 nb lk th al at_ wt en M st c0 k0 a0 f0 w0 i0 d0 FT
    · cases h
  · cases h
noncomputable def bsoG (m1 m2 : Bool) (nb lk th al at_ wt en : Int) (M : List Int → Option Int) (st c0 k0 a0 f0 w0 i0 : Int) (d0 : Bool) (FT : Nat → Nat → AV) : LR := ⟨3, (bsoR nb lk th al at_ wt en ⟨M, st, ⟨c0, k0, a0, f0, w0, i0, d0⟩⟩ FT).v, (bsoR nb lk th al at_ wt en ⟨M, st, ⟨c0, k0, a0, f0, w0, i0, d0⟩⟩ FT).heap, 0, [1, 2, 3], (m1 = true) :: (m2 = true) :: (bsoR nb lk th al at_ wt en ⟨M, st, ⟨c0, k0, a0, f0, w0, i0, d0⟩⟩ FT).ob⟩
theorem bsoG_loc (m1 m2 : Bool) (nb lk th al at_ wt en : Int) (M : List Int → Option Int) (st c0 k0 a0 f0 w0 i0 : Int) (d0 : Bool) (FT : Nat → Nat → AV) : LocOk Tryd.prog 11 [.ptr 1 0 0, .ptr 2 0 0] [(gnm 0, .arr tab.length (tab.map kindOfV) true 1 FT), (1, .cells 9 [.symb m1, .symb m2, .sym .u64 nb, .sym .i64 lk, .sym .i64 th, .sym .i64 al, .sym .i64 at_, .sym .i64 wt, .sym .i64 en]), (2, .cells 9 (.map 3 :: .sym .i64 st :: [.sym .u8 c0, .sym .u8 k0, .sym .i64 a0, .sym .i64 f0, .sym .u64 w0, .sym .u64 i0, .symb d0])), (3, .map 76 M)] (bsoG m1 m2 nb lk th al at_ wt en M st c0 k0 a0 f0 w0 i0 d0 FT) := by
  intro ρ w hob
  have e1 : m1 = true := hob _ (List.mem_cons_self ..)
  have e2 : m2 = true := hob _ (List.mem_cons_of_mem _ (List.mem_cons_self ..))
  subst e1; subst e2
  exact bso_loc nb lk th al at_ wt en ⟨M, st, ⟨c0, k0, a0, f0, w0, i0, d0⟩⟩ FT ρ w (fun p hp => hob p (List.mem_cons_of_mem _ (List.mem_cons_of_mem _ hp)))
noncomputable def bsoSpec : LSpec := fun la lh => match la, lh with
  | [.ptr z1 z2 z3, .ptr z4 z5 z6], [(zt, .arr nt sht rot lent FT), (z7, .cells z8 [.symb m1, .symb m2, .sym .u64 nb, .sym .i64 lk, .sym .i64 th, .sym .i64 al, .sym .i64 at_, .sym .i64 wt, .sym .i64 en]), (z9, .cells z10 (.map z11 :: .sym .i64 st :: [.sym .u8 c0, .sym .u8 k0, .sym .i64 a0, .sym .i64 f0, .sym .u64 w0, .sym .u64 i0, .symb d0])), (z12, .map z13 M)] =>
    match (Nat.beq zt (gnm 0) && (Nat.beq nt tab.length && (shBeq sht (tab.map kindOfV) && (rot && Nat.beq lent 1)))) && (Nat.beq z1 1 && (Nat.beq z2 0 && (Nat.beq z3 0 && (Nat.beq z4 2 && (Nat.beq z5 0 && (Nat.beq z6 0 && (Nat.beq z7 1 && (Nat.beq z8 9 && (Nat.beq z9 2 && (Nat.beq z10 9 && (Nat.beq z11 3 && (Nat.beq z12 3 && (Nat.beq z13 76))))))))))))) with
    | true => some (bsoG m1 m2 nb lk th al at_ wt en M st c0 k0 a0 f0 w0 i0 d0 FT)
    | false => none
  | _, _ => none
theorem bsoSpec_ok (la : List AV) (lh : List (Nat × AO)) (R : LR) (h : bsoSpec la lh = some R) : LocOk Tryd.prog 11 la lh R := by
  unfold bsoSpec at h
  split at h
  · rename_i z1 z2 z3 z4 z5 z6 zt nt sht rot lent FT z7 z8 m1 m2 nb lk th al at_ wt en z9 z10 z11 st c0 k0 a0 f0 w0 i0 d0 z12 z13 M
    split at h
    · rename_i hb
      simp only [Bool.and_eq_true] at hb
      obtain ⟨⟨t1, t2, t3, t4, t5⟩, e1, e2, e3, e4, e5, e6, e7, e8, e9, e10, e11, e12, e13⟩ := hb
      have t1 := Nat.eq_of_beq_eq_true t1; subst t1
      have t2 := Nat.eq_of_beq_eq_true t2; subst t2
      have t3 := shBeq_eq t3; subst t3
      subst t4
      have t5 := Nat.eq_of_beq_eq_true t5; subst t5
      have e1 := Nat.eq_of_beq_eq_true e1; subst e1
      have e2 := Nat.eq_of_beq_eq_true e2; subst e2
      have e3 := Nat.eq_of_beq_eq_true e3; subst e3
      have e4 := Nat.eq_of_beq_eq_true e4; subst e4
      have e5 := Nat.eq_of_beq_eq_true e5; subst e5
      have e6 := Nat.eq_of_beq_eq_true e6; subst e6
      have e7 := Nat.eq_of_beq_eq_true e7; subst e7
      have e8 := Nat.eq_of_beq_eq_true e8; subst e8
      have e9 := Nat.eq_of_beq_eq_true e9; subst e9
      have e10 := Nat.eq_of_beq_eq_true e10; subst e10
      have e11 := Nat.eq_of_beq_eq_true e11; subst e11
      have e12 := Nat.eq_of_beq_eq_true e12; subst e12
      have e13 := Nat.eq_of_beq_eq_true e13; subst e13
      cases h
      exact bsoG_loc m1 m2 nb lk th al at_ wt en M st c0 k0 a0 f0 w0 i0 d0 FT
    · cases h
  · cases h
noncomputable def brcSpec : LSpec := fun la lh => match la, lh with
  | [.ptr z1 z2 z3, .ptr z4 z5 z6], [(z7, .cells z8 [.sym .i64 ln, .sym .u64 nb, .sym .i64 lk, .sym .i64 en, .sym .i64 wt, .sym .i64 th, .sym .i64 al]), (z9, .cells z10 (.ss z11 z12 z13 k none :: .sym .i64 s2 :: [.sym .u8 c2, .sym .u8 k2, .sym .i64 a2, .sym .i64 f2, .sym .u64 w2, .sym .u64 i2, .symb d2])), (z14, .arr z15 z16 false l g)] =>
    match Nat.beq z1 1 && (Nat.beq z2 0 && (Nat.beq z3 0 && (Nat.beq z4 2 && (Nat.beq z5 0 && (Nat.beq z6 0 && (Nat.beq z7 1 && (Nat.beq z8 7 && (Nat.beq z9 2 && (Nat.beq z10 9 && (Nat.beq z11 4 && (Nat.beq z12 3 && (Nat.beq z13 0 && (Nat.beq z14 3 && (Nat.beq z15 4 && (shBeq z16 wSh))))))))))))))) with
    | true => some (brcR nb lk th al ln wt en s2 ⟨c2, k2, a2, f2, w2, i2, d2⟩ k l g)
    | false => none
  | _, _ => none
theorem brcSpec_ok (la : List AV) (lh : List (Nat × AO)) (R : LR) (h : brcSpec la lh = some R) : LocOk Tryd.prog 10 la lh R := by
  unfold brcSpec at h
  split at h
  · rename_i z1 z2 z3 z4 z5 z6 z7 z8 ln nb lk en wt th al z9 z10 z11 z12 z13 k s2 c2 k2 a2 f2 w2 i2 d2 z14 z15 z16 l g
    split at h
    · rename_i hb
      simp only [Bool.and_eq_true] at hb
      obtain ⟨e1, e2, e3, e4, e5, e6, e7, e8, e9, e10, e11, e12, e13, e14, e15, e16⟩ := hb
      have e1 := Nat.eq_of_beq_eq_true e1; subst e1
      have e2 := Nat.eq_of_beq_eq_true e2; subst e2
      have e3 := Nat.eq_of_beq_eq_true e3; subst e3
      have e4 := Nat.eq_of_beq_eq_true e4; subst e4
      have e5 := Nat.eq_of_beq_eq_true e5; subst e5
      have e6 := Nat.eq_of_beq_eq_true e6; subst e6
      have e7 := Nat.eq_of_beq_eq_true e7; subst e7
      have e8 := Nat.eq_of_beq_eq_true e8; subst e8
      have e9 := Nat.eq_of_beq_eq_true e9; subst e9
      have e10 := Nat.eq_of_beq_eq_true e10; subst e10
      have e11 := Nat.eq_of_beq_eq_true e11; subst e11
      have e12 := Nat.eq_of_beq_eq_true e12; subst e12
      have e13 := Nat.eq_of_beq_eq_true e13; subst e13
      have e14 := Nat.eq_of_beq_eq_true e14; subst e14
      have e15 := Nat.eq_of_beq_eq_true e15; subst e15
      have e16 := shBeq_eq e16; subst e16
      cases h
      exact brc_loc nb lk th al ln wt en s2 ⟨c2, k2, a2, f2, w2, i2, d2⟩ k l g
    · cases h
  · cases h
noncomputable def broSpec : LSpec := fun la lh => match la, lh with
  | [.ptr z1 z2 z3, .ptr z4 z5 z6], [(z7, .cells z8 [.sym .i64 ln, .sym .u64 nb, .sym .i64 lk, .sym .i64 en, .sym .i64 wt, .sym .i64 th, .sym .i64 al]), (z9, .cells z10 (.ss z11 z12 z13 k none :: .sym .i64 s2 :: [.sym .u8 c2, .sym .u8 k2, .sym .i64 a2, .sym .i64 f2, .sym .u64 w2, .sym .u64 i2, .symb d2])), (z14, .arr z15 z16 false l g)] =>
    match Nat.beq z1 1 && (Nat.beq z2 0 && (Nat.beq z3 0 && (Nat.beq z4 2 && (Nat.beq z5 0 && (Nat.beq z6 0 && (Nat.beq z7 1 && (Nat.beq z8 7 && (Nat.beq z9 2 && (Nat.beq z10 9 && (Nat.beq z11 4 && (Nat.beq z12 3 && (Nat.beq z13 0 && (Nat.beq z14 3 && (Nat.beq z15 4 && (shBeq z16 wSh))))))))))))))) with
    | true => some (broR nb lk th al ln wt en s2 ⟨c2, k2, a2, f2, w2, i2, d2⟩ k l g)
    | false => none
  | _, _ => none
theorem broSpec_ok (la : List AV) (lh : List (Nat × AO)) (R : LR) (h : broSpec la lh = some R) : LocOk Tryd.prog 10 la lh R := by
  unfold broSpec at h
  split at h
  · rename_i z1 z2 z3 z4 z5 z6 z7 z8 ln nb lk en wt th al z9 z10 z11 z12 z13 k s2 c2 k2 a2 f2 w2 i2 d2 z14 z15 z16 l g
    split at h
    · rename_i hb
      simp only [Bool.and_eq_true] at hb
      obtain ⟨e1, e2, e3, e4, e5, e6, e7, e8, e9, e10, e11, e12, e13, e14, e15, e16⟩ := hb
      have e1 := Nat.eq_of_beq_eq_true e1; subst e1
      have e2 := Nat.eq_of_beq_eq_true e2; subst e2
      have e3 := Nat.eq_of_beq_eq_true e3; subst e3
      have e4 := Nat.eq_of_beq_eq_true e4; subst e4
      have e5 := Nat.eq_of_beq_eq_true e5; subst e5
      have e6 := Nat.eq_of_beq_eq_true e6; subst e6
      have e7 := Nat.eq_of_beq_eq_true e7; subst e7
      have e8 := Nat.eq_of_beq_eq_true e8; subst e8
      have e9 := Nat.eq_of_beq_eq_true e9; subst e9
      have e10 := Nat.eq_of_beq_eq_true e10; subst e10
      have e11 := Nat.eq_of_beq_eq_true e11; subst e11
      have e12 := Nat.eq_of_beq_eq_true e12; subst e12
      have e13 := Nat.eq_of_beq_eq_true e13; subst e13
      have e14 := Nat.eq_of_beq_eq_true e14; subst e14
      have e15 := Nat.eq_of_beq_eq_true e15; subst e15
      have e16 := shBeq_eq e16; subst e16
      cases h
      exact bro_loc nb lk th al ln wt en s2 ⟨c2, k2, a2, f2, w2, i2, d2⟩ k l g
    · cases h
  · cases h
noncomputable def bsSP : SP := altN bscSpec bsoSpec
theorem bsSP_ok : SPOk Tryd.prog 11 bsSP := altN_ok bscSpec_ok bsoSpec_ok
noncomputable def brSP : SP := altN brcSpec broSpec
theorem brSP_ok : SPOk Tryd.prog 10 brSP := altN_ok brcSpec_ok broSpec_ok
end Go.Proofs.YtmlfmmnnbdlabaaDoor
