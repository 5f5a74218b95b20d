/-
  FreesOnce: the end: definitions.
-/
import Derived.Test.YtljeiencnpnbkaaDoorUFpd
import Derived.Test.YtljeiencnpnbkaaDoorUFouDef
import Derived.Test.YtljeiencnpnbkaaDoorEvDropK
set_option linter.unusedSimpArgs false
set_option linter.unusedVariables false
namespace Go.Proofs.YtljeiencnpnbkaaDoor
open Go.Ev
noncomputable def liqSpec (kk : Nat) : LSpec := fun la lh => match la, lh with
  | [.ptr z1 z2 z3], [(zt, .arr nt sht rot lent FT), (z4, .cells z5 [.map z6, .sym .i64 st, .sym .u8 c0, .sym .u8 k0, .sym .i64 a0, .sym .i64 f0, .sym .u64 w0, .sym .u64 i0, .symb d0]), (z7, .map z8 M)] =>
    match (Nat.beq zt (gnm 0) && (Nat.beq nt tab.length && (shBeq sht (tab.map kindOfV) && (rot && Nat.beq lent 1)))) && (Nat.beq z1 1 && (Nat.beq z2 0 && (Nat.beq z3 0 && (Nat.beq z4 1 && (Nat.beq z5 9 && (Nat.beq z6 2 && (Nat.beq z7 2 && (Nat.beq z8 110)))))))) with
    | true => some (li1R ⟨M, st, ⟨c0, k0, a0, f0, w0, i0, d0⟩⟩ kk FT)
    | false => none
  | _, _ => none
theorem liqSpec_ok (kk : Nat) (la : List AV) (lh : List (Nat × AO)) (R : LR) (h : liqSpec kk la lh = some R) : LocOk Tryd.prog 46 la lh R := by
  unfold liqSpec at h
  split at h
  · rename_i z1 z2 z3 zt nt sht rot lent FT z4 z5 z6 st c0 k0 a0 f0 w0 i0 d0 z7 z8 M
    split at h
    · rename_i hb
      simp only [Bool.and_eq_true] at hb
      obtain ⟨⟨t1, t2, t3, t4, t5⟩, e1, e2, e3, e4, e5, e6, e7, e8⟩ := hb
      have t1 := Nat.eq_of_beq_eq_true t1; subst t1
      have t2 := Nat.eq_of_beq_eq_true t2; subst t2
      have t3 := shBeq_eq t3; subst t3
      subst t4
      have t5 := Nat.eq_of_beq_eq_true t5; subst t5
      have e1 := Nat.eq_of_beq_eq_true e1; subst e1
      have e2 := Nat.eq_of_beq_eq_true e2; subst e2
      have e3 := Nat.eq_of_beq_eq_true e3; subst e3
      have e4 := Nat.eq_of_beq_eq_true e4; subst e4
      have e5 := Nat.eq_of_beq_eq_true e5; subst e5
      have e6 := Nat.eq_of_beq_eq_true e6; subst e6
      have e7 := Nat.eq_of_beq_eq_true e7; subst e7
      have e8 := Nat.eq_of_beq_eq_true e8; subst e8
      cases h
      exact li1_loc ⟨M, st, ⟨c0, k0, a0, f0, w0, i0, d0⟩⟩ kk FT
    · cases h
  · cases h
noncomputable def EFq (kk : Nat) : Env := envG Tryd.prog ([(46, locSP (liqSpec kk))])
theorem EFq_ok (kk : Nat) : EnvOk (EFq kk) := envG_ok mgood ⟨locSP_ok (liqSpec_ok kk), trivial⟩
noncomputable def EFz : Env := envG Tryd.prog [(43, tabSP 0 tab sNone)]
theorem EFz_ok : EnvOk EFz := envG_ok mgood ⟨tabSP_ok rfl (sNone_ok l7_pure), trivial⟩
noncomputable def LQ : List Int → Nat → Int := hide (fun L j => L.getD j 0)
theorem LQ_at (L : List Int) (i : Nat) (h : i < L.length) : LQ L i = L[i] := by
  have : LQ L i = L.getD i 0 := congrFun (congrFun (hide_eq (fun (L : List Int) (j : Nat) => L.getD j 0)) L) i
  rw [this, List.getD_eq_getElem?_getD, List.getElem?_eq_getElem h]; rfl
noncomputable def foC0 : Code := match Tryd.f8.body with
  | some c => tailC 5 c
  | none => .skip
noncomputable def foC2 : Code := sndC (sndC foC0)
noncomputable def foR21 : Code := fstC foC2
noncomputable def foR22 : Code := fstC (sndC foC2)
noncomputable def foC4 : Code := sndC (sndC foC2)
noncomputable def foR23 : Code := fstC (fstC foC4)
noncomputable abbrev foA3 : Code := loopAt Tryd.prog 8 3
noncomputable def foC5 : Code := sndC foC4
noncomputable def foR27 : Code := fstC (fstC foC5)
noncomputable abbrev foA4 : Code := loopAt Tryd.prog 8 4
noncomputable def foC6 : Code := sndC foC5
noncomputable def foR6 : Code := fstC (fstC foC0)
noncomputable def foR12 : Code := fstC (fstC (sndC foC0))
theorem foC0_eq : foC0 = .seq (.seq foR6 (.block 0 (.loop foL))) (.seq (.seq foR12 (.block 2 (.loop foM))) (.seq foR21 (.seq foR22 (.seq (.seq foR23 (.block 6 (.loop foA3))) (.seq (.seq foR27 (.block 8 (.loop foA4))) foC6))))) := by kernel_rfl
section
variable (m : Nat) (f : Nat → Nat → AV) (n : Nat) (S : MS) (T : Nat → FW) (kk : Nat) (LL : Nat → List Int)
noncomputable def flR : FSt := ⟨[.top, .ss 1 1 0 m none, .top, .top, .top, .sym .i64 (Int.ofNat n), .ptr 3 0 0, .bool true, .ss 3 5 0 6 (some 6), .top, .top, .top, .ss 1 6 0 kk none] ++ List.replicate 157 .top, [(6, .arr 1 [.int .i64] false kk (LF (lsT S))), (gnm 0, tabAO tab), (3, .cells 9 (.map 2 :: lsL (lsM S kk).st (lsM S kk).L)), (2, .map 110 (lsM S kk).M), (1, .arr 1 [.int .u8] true m f)], 6, fun k => foMb (T k), [5, 3, 2]⟩
noncomputable def flQ : FSt := ⟨[.top, .ss 1 1 0 m none, .top, .top, .top, .sym .i64 (Int.ofNat n), .ptr 3 0 0, .bool true, .ss 3 5 0 6 (some 6), .top, .top, .top, .ss 1 6 0 kk none, .ss 1 7 0 n (some n)] ++ List.replicate 156 .top, [(7, .arr 1 [.int .i64] false n (LF (fun _ => 0))), (6, .arr 1 [.int .i64] false kk (LF (lsT S))), (gnm 0, tabAO tab), (3, .cells 9 (.map 2 :: lsL (lsM S kk).st (lsM S kk).L)), (2, .map 110 (lsM S kk).M), (1, .arr 1 [.int .u8] true m f)], 6, fun k => foMb (T k), [5, 3, 2]⟩
noncomputable def f3S (a : Nat) : FSt := ⟨[.top, .ss 1 1 0 m none, .top, .top, .top, .sym .i64 (Int.ofNat n), .ptr 3 0 0, .bool true, .ss 3 5 0 6 (some 6), .top, .top, .top, .ss 1 6 0 (LL a).length none, .ss 1 7 0 n (some n), .sym .i64 (Int.ofNat a)] ++ List.replicate 155 .top, [(7, .arr 1 [.int .i64] false n (LF (fun _ => 0))), (6, .arr 1 [.int .i64] false (LL a).length (LF (LQ (LL a)))), (gnm 0, tabAO tab), (3, .cells 9 (.map 2 :: lsL (lsM S kk).st (lsM S kk).L)), (2, .map 110 (lsM S kk).M), (1, .arr 1 [.int .u8] true m f)], 6, fun k => foMb (T k), [5, 3, 2]⟩
noncomputable def f4S : FSt := ⟨[.top, .top, .top, .top, .top, .sym .i64 (Int.ofNat n), .top, .bool true, .top, .top, .top, .top, .ss 1 6 0 (LL 6).length none, .ss 1 7 0 n (some n)] ++ List.replicate 156 .top, [(7, .arr 1 [.int .i64] false n (LF (fun _ => 0))), (6, .arr 1 [.int .i64] false (LL 6).length (LF (LQ (LL 6)))), (gnm 0, tabAO tab), (3, .cells 9 (.map 2 :: lsL (lsM S kk).st (lsM S kk).L)), (2, .map 110 (lsM S kk).M), (1, .arr 1 [.int .u8] true m f)], 6, fun k => foMb (T k), [5, 3, 2]⟩
noncomputable def flS0 : FSt := ⟨[.top, .ss 1 1 0 m none, .top, .top, .top, .sym .i64 (Int.ofNat n), .ptr 3 0 0, .top, .ss 3 5 0 6 (some 6)] ++ List.replicate 161 .top, [(gnm 0, tabAO tab), (3, .cells 9 (.map 2 :: lsL S.st S.L)), (2, .map 110 S.M), (1, .arr 1 [.int .u8] true m f)], 6, fun k => foMb (T k), [5, 3, 2]⟩
end
theorem flGoodR {m : Nat} {f : Nat → Nat → AV} {n : Nat} {S : MS} {T : Nat → FW} {kk : Nat} : FGood foF (flR m f n S T kk) := ⟨⟨by kernel_rfl, by kernel_rfl, fun i _ => foMb_ok _⟩, by show 6 ≤ 1000000; omega⟩
theorem flGoodQ {m : Nat} {f : Nat → Nat → AV} {n : Nat} {S : MS} {T : Nat → FW} {kk : Nat} : FGood foF (flQ m f n S T kk) := ⟨⟨by kernel_rfl, by kernel_rfl, fun i _ => foMb_ok _⟩, by show 6 ≤ 1000000; omega⟩
theorem f3Good {m : Nat} {f : Nat → Nat → AV} {n : Nat} {S : MS} {T : Nat → FW} {kk : Nat} {LL : Nat → List Int} {a : Nat} : FGood foF (f3S m f n S T kk LL a) := ⟨⟨by kernel_rfl, by kernel_rfl, fun i _ => foMb_ok _⟩, by show 6 ≤ 1000000; omega⟩
theorem f4Good {m : Nat} {f : Nat → Nat → AV} {n : Nat} {S : MS} {T : Nat → FW} {kk : Nat} {LL : Nat → List Int} : FGood foF (f4S m f n S T kk LL) := ⟨⟨by kernel_rfl, by kernel_rfl, fun i _ => foMb_ok _⟩, by show 6 ≤ 1000000; omega⟩
theorem app3_rows {L H : List Int} {E : Nat → Int} {of : Nat} (hE : ∀ k (h : k < H.length), E (of + k) = H[k]) : ∀ i, i < (L ++ H).length → rowOb [.int .i64] 0 (fun j => if i < L.length then LF (LQ L) (0 + i) j else LF E (of + (i - L.length)) j) (LF (LQ (L ++ H)) i) := fun i hi => by
  have hi' : i < L.length + H.length := by simpa using hi
  by_cases c : i < L.length
  · simp only [c, if_true]
    refine ⟨?_, trivial⟩
    show AV.sym .i64 (LQ (L ++ H) i) = .sym .i64 (LQ L (0 + i))
    rw [Nat.zero_add, LQ_at _ i hi, LQ_at _ i c, List.getElem_append_left c]
  · simp only [c, if_false]
    refine ⟨?_, trivial⟩
    show AV.sym .i64 (LQ (L ++ H) i) = .sym .i64 (E (of + (i - L.length)))
    rw [LQ_at _ i hi, hE (i - L.length) (by omega), List.getElem_append_right (by omega)]
theorem ls3_rows {S : MS} {L : List Int} (h : ∀ i (q : i < L.length), lsT S i = L[i]) : ∀ i, i < L.length → rowOb [.int .i64] 0 (LF (lsT S) i) (LF (LQ L) i) := fun i hi => ⟨by show AV.sym .i64 (LQ L i) = .sym .i64 (lsT S i); rw [LQ_at _ i hi, h i hi], trivial⟩
end Go.Proofs.YtljeiencnpnbkaaDoor
