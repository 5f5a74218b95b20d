/-
  joined, left: loops.
-/
import Derived.Test.YtmndhjodbnojdaaDoorJTg0Def
set_option linter.unusedSimpArgs false
set_option linter.unusedVariables false
namespace Go.Proofs.YtmndhjodbnojdaaDoor
open Go.Ev
theorem jdaa_1 (w : Int) (S : MS) (k : Nat) (ii : Nat) : roundB ETf 2000 jdaL ((jdaU w S k).hp) [] (jdaT w S k ii) [Hint.b true, Hint.b false] (jdaT w S k (ii + 1)) =
 some (Ex.norm, [(0 : Nat) = 0,
 (0 : Nat) = 0,
 w = w,
 (0 : Nat) = 0,
 (0 : Nat) = 0,
 IntKind.i64.wrap (Int.ofNat ii + 1 + 1) = Int.ofNat (ii + 1) + 1,
 (jnX (jdIt S w ii).S (jdIt S w ii).o).ln = (jdIt S w (ii + 1)).o.ln,
 (jnX (jdIt S w ii).S (jdIt S w ii).o).bl = (jdIt S w (ii + 1)).o.bl,
 (jnX (jdIt S w ii).S (jdIt S w ii).o).wd = (jdIt S w (ii + 1)).o.wd,
 (jnX (jdIt S w ii).S (jdIt S w ii).o).e = (jdIt S w (ii + 1)).o.e,
 (jnX (jdIt S w ii).S (jdIt S w ii).o).ow = (jdIt S w (ii + 1)).o.ow,
 (jnX (jdIt S w ii).S (jdIt S w ii).o).bs = (jdIt S w (ii + 1)).o.bs,
 (jnX (jdIt S w ii).S (jdIt S w ii).o).kk = (jdIt S w (ii + 1)).o.kk,
 (jnX (jdIt S w ii).S (jdIt S w ii).o).th = (jdIt S w (ii + 1)).o.th,
 true = true,
 (1 : Nat) ≤ (1 : Nat),
 tabF tab = tabF tab ∧ plainSh (List.map kindOfV tab) = true ∨ ∀ (i : Nat), i < 1 → rowOb (List.map kindOfV tab) 0 (tabF tab i) (tabF tab i),
 (jnY (jdIt S w ii).S (jdIt S w ii).o).st = (jdIt S w (ii + 1)).S.st,
 (jnY (jdIt S w ii).S (jdIt S w ii).o).L.c = (jdIt S w (ii + 1)).S.L.c,
 (jnY (jdIt S w ii).S (jdIt S w ii).o).L.k = (jdIt S w (ii + 1)).S.L.k,
 (jnY (jdIt S w ii).S (jdIt S w ii).o).L.a = (jdIt S w (ii + 1)).S.L.a,
 (jnY (jdIt S w ii).S (jdIt S w ii).o).L.f = (jdIt S w (ii + 1)).S.L.f,
 (jnY (jdIt S w ii).S (jdIt S w ii).o).L.w = (jdIt S w (ii + 1)).S.L.w,
 (jnY (jdIt S w ii).S (jdIt S w ii).o).L.i = (jdIt S w (ii + 1)).S.L.i,
 (jnY (jdIt S w ii).S (jdIt S w ii).o).L.d = (jdIt S w (ii + 1)).S.L.d,
 ∀ (k : List Int), (jnY (jdIt S w ii).S (jdIt S w ii).o).M k = (jdIt S w (ii + 1)).S.M k,
 decide ((jnX (jdIt S w ii).S (jdIt S w ii).o).ln = 0) = false,
 tabF tab = tabF tab,
 U64 (jdIt S w ii).S,
 Ln7 (jdIt S w ii).o.ln,
 R64 (jdIt S w ii).o.wd,
 decide (Int.ofNat ii + 1 ≤ 40) = true]) := by kernel_rfl
theorem jdae_1 (w : Int) (S : MS) (k : Nat) (ii : Nat) : roundB ETf 2000 jdaL ((jdaU w S k).hp) [] (jdaT w S k ii) [Hint.b true, Hint.b true, Hint.b false, Hint.b false, Hint.b false] (jdaX w S k ii) =
 some (Ex.ret, [(jnX (jdIt S w ii).S (jdIt S w ii).o).th = (jdIt S w (ii + 1)).o.th,
 Int.ofNat ii + 1 = Int.ofNat ii + 1,
 (jnX (jdIt S w ii).S (jdIt S w ii).o).ln = (jdIt S w (ii + 1)).o.ln,
 (jnX (jdIt S w ii).S (jdIt S w ii).o).bl = (jdIt S w (ii + 1)).o.bl,
 (jnX (jdIt S w ii).S (jdIt S w ii).o).wd = (jdIt S w (ii + 1)).o.wd,
 (jnX (jdIt S w ii).S (jdIt S w ii).o).e = (jdIt S w (ii + 1)).o.e,
 (jnX (jdIt S w ii).S (jdIt S w ii).o).ow = (jdIt S w (ii + 1)).o.ow,
 (jnX (jdIt S w ii).S (jdIt S w ii).o).bs = (jdIt S w (ii + 1)).o.bs,
 (jnX (jdIt S w ii).S (jdIt S w ii).o).kk = (jdIt S w (ii + 1)).o.kk,
 (jnX (jdIt S w ii).S (jdIt S w ii).o).th = (jdIt S w (ii + 1)).o.th,
 true = true,
 (1 : Nat) ≤ (1 : Nat),
 tabF tab = tabF tab ∧ plainSh (List.map kindOfV tab) = true ∨ ∀ (i : Nat), i < 1 → rowOb (List.map kindOfV tab) 0 (tabF tab i) (tabF tab i),
 (jnY (jdIt S w ii).S (jdIt S w ii).o).st = (jdIt S w (ii + 1)).S.st,
 (jnY (jdIt S w ii).S (jdIt S w ii).o).L.c = (jdIt S w (ii + 1)).S.L.c,
 (jnY (jdIt S w ii).S (jdIt S w ii).o).L.k = (jdIt S w (ii + 1)).S.L.k,
 (jnY (jdIt S w ii).S (jdIt S w ii).o).L.a = (jdIt S w (ii + 1)).S.L.a,
 (jnY (jdIt S w ii).S (jdIt S w ii).o).L.f = (jdIt S w (ii + 1)).S.L.f,
 (jnY (jdIt S w ii).S (jdIt S w ii).o).L.w = (jdIt S w (ii + 1)).S.L.w,
 (jnY (jdIt S w ii).S (jdIt S w ii).o).L.i = (jdIt S w (ii + 1)).S.L.i,
 (jnY (jdIt S w ii).S (jdIt S w ii).o).L.d = (jdIt S w (ii + 1)).S.L.d,
 ∀ (k : List Int), (jnY (jdIt S w ii).S (jdIt S w ii).o).M k = (jdIt S w (ii + 1)).S.M k,
 ((jnX (jdIt S w ii).S (jdIt S w ii).o).ow == 0) = false,
 ((jnX (jdIt S w ii).S (jdIt S w ii).o).e != 0) = false,
 (!(jnX (jdIt S w ii).S (jdIt S w ii).o).ln == 0) = false,
 decide ((jnX (jdIt S w ii).S (jdIt S w ii).o).ln = 0) = true,
 tabF tab = tabF tab,
 U64 (jdIt S w ii).S,
 Ln7 (jdIt S w ii).o.ln,
 R64 (jdIt S w ii).o.wd,
 decide (Int.ofNat ii + 1 ≤ 40) = true]) := by kernel_rfl
theorem jdai_1 (w : Int) (S : MS) (k : Nat) : castSt ((jdaU w S k).hp) [] (jdaU w S k) (jdaT w S k 0) =
 some ([(0 : Nat) = 0,
 (0 : Nat) = 0,
 w = w,
 (0 : Nat) = 0,
 (0 : Nat) = 0,
 (1 : Int) = 1,
 (1 : Int) = 1,
 (0 : Int) = 0,
 (0 : Int) = 0,
 (0 : Int) = 0,
 jOw w = (jdIt S w 0).o.ow,
 (0 : Int) = 0,
 (0 : Int) = 0,
 (-1 : Int) = -1,
 true = true,
 (1 : Nat) ≤ (1 : Nat),
 tabF tab = tabF tab ∧ plainSh (List.map kindOfV tab) = true ∨ ∀ (i : Nat), i < 1 → rowOb (List.map kindOfV tab) 0 (tabF tab i) (tabF tab i),
 S.st = (jdIt S w 0).S.st,
 S.L.c = (jdIt S w 0).S.L.c,
 S.L.k = (jdIt S w 0).S.L.k,
 S.L.a = (jdIt S w 0).S.L.a,
 S.L.f = (jdIt S w 0).S.L.f,
 S.L.w = (jdIt S w 0).S.L.w,
 S.L.i = (jdIt S w 0).S.L.i,
 S.L.d = (jdIt S w 0).S.L.d,
 ∀ (k : List Int), S.M k = (jdIt S w 0).S.M k]) := by kernel_rfl
theorem jda_lp (w : Int) (S : MS) (k : Nat) (hu : U64 S) (hat : JdAt S w (k + 1)) (he : (jdIt S w (k + 1)).o.e = 0) (hw0 : 0 ≤ w) (hw1 : w < 4611686018427387904) : jdaLP w S k := by
  refine loop_rule ETf_ok (I := Nat) (fun i => jdaT w S k i) (fun i => k - i) (fun i => i ≤ k) ?_ (fun ii hi => ?_)
  ·
    refine ⟨0, [], _, Nat.zero_le _, jdai_1 .., (ob_cons rfl (ob_cons rfl (ob_cons rfl (ob_cons rfl (ob_cons rfl (ob_cons rfl (ob_cons rfl (ob_cons rfl (ob_cons rfl (ob_cons rfl (ob_cons ?_ (ob_cons rfl (ob_cons rfl (ob_cons rfl (ob_cons rfl (ob_cons (Nat.le_refl _) (ob_cons (.inl ⟨rfl, rfl⟩) (ob_cons ?_ (ob_cons ?_ (ob_cons ?_ (ob_cons ?_ (ob_cons ?_ (ob_cons ?_ (ob_cons ?_ (ob_cons ?_ (ob_cons ?_ ob_nil))))))))))))))))))))))))))⟩
    · exact rfl
    · exact rfl
    · exact rfl
    · exact rfl
    · exact rfl
    · exact rfl
    · exact rfl
    · exact rfl
    · exact rfl
    · exact fun _ => rfl
  have hi : ii ≤ k := hi
  have hit := jdIt_ok hu w ii
  have hk1 := hat.1
  have hk2 := hat.2.1
  have hno : ii + 1 < k + 1 → ¬ (jdIt S w (ii + 1)).o.ln = 0 := fun h => hat.2.2.2 (ii + 1) (by omega) h
  have ex1 : IntKind.i64.wrap (Int.ofNat ii + 1 + 1) = Int.ofNat (ii + 1) + 1 := by rw [i64w (by simp; omega) (by simp; omega)]; simp
  have ex2 : decide (Int.ofNat ii + 1 ≤ 40) = true := decide_eq_true (by simp; omega)
  by_cases c : ii < k
  · skip
    refine round_norm (s0 := jdaU w S k) (T := fun i => jdaT w S k i) (i := ii) (ii + 1) (jdaa_1 ..) (ob_cons rfl (ob_cons rfl (ob_cons rfl (ob_cons rfl (ob_cons rfl (ob_cons ?_ (ob_cons ?_ (ob_cons ?_ (ob_cons ?_ (ob_cons ?_ (ob_cons ?_ (ob_cons ?_ (ob_cons ?_ (ob_cons ?_ (ob_cons rfl (ob_cons (Nat.le_refl _) (ob_cons (.inl ⟨rfl, rfl⟩) (ob_cons ?_ (ob_cons ?_ (ob_cons ?_ (ob_cons ?_ (ob_cons ?_ (ob_cons ?_ (ob_cons ?_ (ob_cons ?_ (ob_cons ?_ (ob_cons ?_ (ob_cons rfl (ob_cons ?_ (ob_cons ?_ (ob_cons ?_ (ob_cons ?_ ob_nil)))))))))))))))))))))))))))))))) (by show ii + 1 ≤ k; omega) (by show k - (ii + 1) < k - ii; omega)
    · with_reducible assumption
    · exact rfl
    · exact rfl
    · exact rfl
    · exact rfl
    · exact rfl
    · exact rfl
    · exact rfl
    · exact rfl
    · exact rfl
    · exact rfl
    · exact rfl
    · exact rfl
    · exact rfl
    · exact rfl
    · exact rfl
    · exact rfl
    · exact fun _ => rfl
    · exact decide_eq_false (hno (by omega))
    · exact hit.1
    · exact hit.2.l
    · exact hit.2.h
    · with_reducible assumption
  · obtain rfl : k = ii := by omega
    have hov : (jdIt S w (k + 1)).o.ln = 0 := hat.2.2.1
    have how := jdIt_ow S w (k + 1)
    have hob : ((jnX (jdIt S w k).S (jdIt S w k).o).ow == 0) = false := by show ((jdIt S w (k + 1)).o.ow == 0) = false; rw [how, jOw_eq hw0 hw1]; exact eqF (by omega)
    have heb : ((jnX (jdIt S w k).S (jdIt S w k).o).e != 0) = false := bne_f he
    refine round_exit (s0 := jdaU w S k) (T := fun i => jdaT w S k i) (i := k) (jdae_1 ..) (by simp) (ob_cons ?_ (ob_cons rfl (ob_cons ?_ (ob_cons ?_ (ob_cons ?_ (ob_cons ?_ (ob_cons ?_ (ob_cons ?_ (ob_cons ?_ (ob_cons ?_ (ob_cons rfl (ob_cons (Nat.le_refl _) (ob_cons (.inl ⟨rfl, rfl⟩) (ob_cons ?_ (ob_cons ?_ (ob_cons ?_ (ob_cons ?_ (ob_cons ?_ (ob_cons ?_ (ob_cons ?_ (ob_cons ?_ (ob_cons ?_ (ob_cons ?_ (ob_cons ?_ (ob_cons ?_ (ob_cons ?_ (ob_cons rfl (ob_cons ?_ (ob_cons ?_ (ob_cons ?_ (ob_cons ?_ ob_nil)))))))))))))))))))))))))))))))
    · exact rfl
    · exact rfl
    · exact rfl
    · exact rfl
    · exact rfl
    · exact rfl
    · exact rfl
    · exact rfl
    · exact rfl
    · exact rfl
    · exact rfl
    · exact rfl
    · exact rfl
    · exact rfl
    · exact rfl
    · exact rfl
    · exact rfl
    · exact fun _ => rfl
    · with_reducible assumption
    · with_reducible assumption
    · exact notF0 (decide_eq_true hov)
    · exact decide_eq_true hov
    · exact hit.1
    · exact hit.2.l
    · exact hit.2.h
    · with_reducible assumption

theorem jdba_1 (w : Int) (S : MS) (k : Nat) (ii : Nat) : roundB ETf 2000 jdbL ((jdbU w S k).hp) [] (jdbT w S k ii) [Hint.b true, Hint.b false] (jdbT w S k (ii + 1)) =
 some (Ex.norm, [(0 : Nat) = 0,
 (0 : Nat) = 0,
 w = w,
 (0 : Nat) = 0,
 (0 : Nat) = 0,
 IntKind.i64.wrap (Int.ofNat ii + 1 + 1) = Int.ofNat (ii + 1) + 1,
 (jnX (jdIt S w ii).S (jdIt S w ii).o).ln = (jdIt S w (ii + 1)).o.ln,
 (jnX (jdIt S w ii).S (jdIt S w ii).o).bl = (jdIt S w (ii + 1)).o.bl,
 (jnX (jdIt S w ii).S (jdIt S w ii).o).wd = (jdIt S w (ii + 1)).o.wd,
 (jnX (jdIt S w ii).S (jdIt S w ii).o).e = (jdIt S w (ii + 1)).o.e,
 (jnX (jdIt S w ii).S (jdIt S w ii).o).ow = (jdIt S w (ii + 1)).o.ow,
 (jnX (jdIt S w ii).S (jdIt S w ii).o).bs = (jdIt S w (ii + 1)).o.bs,
 (jnX (jdIt S w ii).S (jdIt S w ii).o).kk = (jdIt S w (ii + 1)).o.kk,
 (jnX (jdIt S w ii).S (jdIt S w ii).o).th = (jdIt S w (ii + 1)).o.th,
 true = true,
 (1 : Nat) ≤ (1 : Nat),
 tabF tab = tabF tab ∧ plainSh (List.map kindOfV tab) = true ∨ ∀ (i : Nat), i < 1 → rowOb (List.map kindOfV tab) 0 (tabF tab i) (tabF tab i),
 (jnY (jdIt S w ii).S (jdIt S w ii).o).st = (jdIt S w (ii + 1)).S.st,
 (jnY (jdIt S w ii).S (jdIt S w ii).o).L.c = (jdIt S w (ii + 1)).S.L.c,
 (jnY (jdIt S w ii).S (jdIt S w ii).o).L.k = (jdIt S w (ii + 1)).S.L.k,
 (jnY (jdIt S w ii).S (jdIt S w ii).o).L.a = (jdIt S w (ii + 1)).S.L.a,
 (jnY (jdIt S w ii).S (jdIt S w ii).o).L.f = (jdIt S w (ii + 1)).S.L.f,
 (jnY (jdIt S w ii).S (jdIt S w ii).o).L.w = (jdIt S w (ii + 1)).S.L.w,
 (jnY (jdIt S w ii).S (jdIt S w ii).o).L.i = (jdIt S w (ii + 1)).S.L.i,
 (jnY (jdIt S w ii).S (jdIt S w ii).o).L.d = (jdIt S w (ii + 1)).S.L.d,
 ∀ (k : List Int), (jnY (jdIt S w ii).S (jdIt S w ii).o).M k = (jdIt S w (ii + 1)).S.M k,
 decide ((jnX (jdIt S w ii).S (jdIt S w ii).o).ln = 0) = false,
 tabF tab = tabF tab,
 U64 (jdIt S w ii).S,
 Ln7 (jdIt S w ii).o.ln,
 R64 (jdIt S w ii).o.wd,
 decide (Int.ofNat ii + 1 ≤ 40) = true]) := by kernel_rfl
theorem jdbe_1 (w : Int) (S : MS) (k : Nat) (ii : Nat) : roundB ETf 2000 jdbL ((jdbU w S k).hp) [] (jdbT w S k ii) [Hint.b true, Hint.b true, Hint.b false, Hint.b true] (jdbX w S k ii) =
 some (Ex.ret, [(jnX (jdIt S w ii).S (jdIt S w ii).o).e = (jdIt S w (ii + 1)).o.e,
 Int.ofNat ii + 1 = Int.ofNat ii + 1,
 (jnX (jdIt S w ii).S (jdIt S w ii).o).ln = (jdIt S w (ii + 1)).o.ln,
 (jnX (jdIt S w ii).S (jdIt S w ii).o).bl = (jdIt S w (ii + 1)).o.bl,
 (jnX (jdIt S w ii).S (jdIt S w ii).o).wd = (jdIt S w (ii + 1)).o.wd,
 (jnX (jdIt S w ii).S (jdIt S w ii).o).e = (jdIt S w (ii + 1)).o.e,
 (jnX (jdIt S w ii).S (jdIt S w ii).o).ow = (jdIt S w (ii + 1)).o.ow,
 (jnX (jdIt S w ii).S (jdIt S w ii).o).bs = (jdIt S w (ii + 1)).o.bs,
 (jnX (jdIt S w ii).S (jdIt S w ii).o).kk = (jdIt S w (ii + 1)).o.kk,
 (jnX (jdIt S w ii).S (jdIt S w ii).o).th = (jdIt S w (ii + 1)).o.th,
 true = true,
 (1 : Nat) ≤ (1 : Nat),
 tabF tab = tabF tab ∧ plainSh (List.map kindOfV tab) = true ∨ ∀ (i : Nat), i < 1 → rowOb (List.map kindOfV tab) 0 (tabF tab i) (tabF tab i),
 (jnY (jdIt S w ii).S (jdIt S w ii).o).st = (jdIt S w (ii + 1)).S.st,
 (jnY (jdIt S w ii).S (jdIt S w ii).o).L.c = (jdIt S w (ii + 1)).S.L.c,
 (jnY (jdIt S w ii).S (jdIt S w ii).o).L.k = (jdIt S w (ii + 1)).S.L.k,
 (jnY (jdIt S w ii).S (jdIt S w ii).o).L.a = (jdIt S w (ii + 1)).S.L.a,
 (jnY (jdIt S w ii).S (jdIt S w ii).o).L.f = (jdIt S w (ii + 1)).S.L.f,
 (jnY (jdIt S w ii).S (jdIt S w ii).o).L.w = (jdIt S w (ii + 1)).S.L.w,
 (jnY (jdIt S w ii).S (jdIt S w ii).o).L.i = (jdIt S w (ii + 1)).S.L.i,
 (jnY (jdIt S w ii).S (jdIt S w ii).o).L.d = (jdIt S w (ii + 1)).S.L.d,
 ∀ (k : List Int), (jnY (jdIt S w ii).S (jdIt S w ii).o).M k = (jdIt S w (ii + 1)).S.M k,
 ((jnX (jdIt S w ii).S (jdIt S w ii).o).e != 0) = true,
 (!(jnX (jdIt S w ii).S (jdIt S w ii).o).ln == 0) = false,
 decide ((jnX (jdIt S w ii).S (jdIt S w ii).o).ln = 0) = true,
 tabF tab = tabF tab,
 U64 (jdIt S w ii).S,
 Ln7 (jdIt S w ii).o.ln,
 R64 (jdIt S w ii).o.wd,
 decide (Int.ofNat ii + 1 ≤ 40) = true]) := by kernel_rfl
theorem jdbi_1 (w : Int) (S : MS) (k : Nat) : castSt ((jdbU w S k).hp) [] (jdbU w S k) (jdbT w S k 0) =
 some ([(0 : Nat) = 0,
 (0 : Nat) = 0,
 w = w,
 (0 : Nat) = 0,
 (0 : Nat) = 0,
 (1 : Int) = 1,
 (1 : Int) = 1,
 (0 : Int) = 0,
 (0 : Int) = 0,
 (0 : Int) = 0,
 jOw w = (jdIt S w 0).o.ow,
 (0 : Int) = 0,
 (0 : Int) = 0,
 (-1 : Int) = -1,
 true = true,
 (1 : Nat) ≤ (1 : Nat),
 tabF tab = tabF tab ∧ plainSh (List.map kindOfV tab) = true ∨ ∀ (i : Nat), i < 1 → rowOb (List.map kindOfV tab) 0 (tabF tab i) (tabF tab i),
 S.st = (jdIt S w 0).S.st,
 S.L.c = (jdIt S w 0).S.L.c,
 S.L.k = (jdIt S w 0).S.L.k,
 S.L.a = (jdIt S w 0).S.L.a,
 S.L.f = (jdIt S w 0).S.L.f,
 S.L.w = (jdIt S w 0).S.L.w,
 S.L.i = (jdIt S w 0).S.L.i,
 S.L.d = (jdIt S w 0).S.L.d,
 ∀ (k : List Int), S.M k = (jdIt S w 0).S.M k]) := by kernel_rfl
theorem jdb_lp (w : Int) (S : MS) (k : Nat) (hu : U64 S) (hat : JdAt S w (k + 1)) (he : ¬ (jdIt S w (k + 1)).o.e = 0) : jdbLP w S k := by
  refine loop_rule ETf_ok (I := Nat) (fun i => jdbT w S k i) (fun i => k - i) (fun i => i ≤ k) ?_ (fun ii hi => ?_)
  ·
    refine ⟨0, [], _, Nat.zero_le _, jdbi_1 .., (ob_cons rfl (ob_cons rfl (ob_cons rfl (ob_cons rfl (ob_cons rfl (ob_cons rfl (ob_cons rfl (ob_cons rfl (ob_cons rfl (ob_cons rfl (ob_cons ?_ (ob_cons rfl (ob_cons rfl (ob_cons rfl (ob_cons rfl (ob_cons (Nat.le_refl _) (ob_cons (.inl ⟨rfl, rfl⟩) (ob_cons ?_ (ob_cons ?_ (ob_cons ?_ (ob_cons ?_ (ob_cons ?_ (ob_cons ?_ (ob_cons ?_ (ob_cons ?_ (ob_cons ?_ ob_nil))))))))))))))))))))))))))⟩
    · exact rfl
    · exact rfl
    · exact rfl
    · exact rfl
    · exact rfl
    · exact rfl
    · exact rfl
    · exact rfl
    · exact rfl
    · exact fun _ => rfl
  have hi : ii ≤ k := hi
  have hit := jdIt_ok hu w ii
  have hk1 := hat.1
  have hk2 := hat.2.1
  have hno : ii + 1 < k + 1 → ¬ (jdIt S w (ii + 1)).o.ln = 0 := fun h => hat.2.2.2 (ii + 1) (by omega) h
  have ex1 : IntKind.i64.wrap (Int.ofNat ii + 1 + 1) = Int.ofNat (ii + 1) + 1 := by rw [i64w (by simp; omega) (by simp; omega)]; simp
  have ex2 : decide (Int.ofNat ii + 1 ≤ 40) = true := decide_eq_true (by simp; omega)
  by_cases c : ii < k
  · skip
    refine round_norm (s0 := jdbU w S k) (T := fun i => jdbT w S k i) (i := ii) (ii + 1) (jdba_1 ..) (ob_cons rfl (ob_cons rfl (ob_cons rfl (ob_cons rfl (ob_cons rfl (ob_cons ?_ (ob_cons ?_ (ob_cons ?_ (ob_cons ?_ (ob_cons ?_ (ob_cons ?_ (ob_cons ?_ (ob_cons ?_ (ob_cons ?_ (ob_cons rfl (ob_cons (Nat.le_refl _) (ob_cons (.inl ⟨rfl, rfl⟩) (ob_cons ?_ (ob_cons ?_ (ob_cons ?_ (ob_cons ?_ (ob_cons ?_ (ob_cons ?_ (ob_cons ?_ (ob_cons ?_ (ob_cons ?_ (ob_cons ?_ (ob_cons rfl (ob_cons ?_ (ob_cons ?_ (ob_cons ?_ (ob_cons ?_ ob_nil)))))))))))))))))))))))))))))))) (by show ii + 1 ≤ k; omega) (by show k - (ii + 1) < k - ii; omega)
    · with_reducible assumption
    · exact rfl
    · exact rfl
    · exact rfl
    · exact rfl
    · exact rfl
    · exact rfl
    · exact rfl
    · exact rfl
    · exact rfl
    · exact rfl
    · exact rfl
    · exact rfl
    · exact rfl
    · exact rfl
    · exact rfl
    · exact rfl
    · exact fun _ => rfl
    · exact decide_eq_false (hno (by omega))
    · exact hit.1
    · exact hit.2.l
    · exact hit.2.h
    · with_reducible assumption
  · obtain rfl : k = ii := by omega
    have hov : (jdIt S w (k + 1)).o.ln = 0 := hat.2.2.1
    have heb : ((jnX (jdIt S w k).S (jdIt S w k).o).e != 0) = true := by show ((jdIt S w (k + 1)).o.e != 0) = true; simpa using he
    refine round_exit (s0 := jdbU w S k) (T := fun i => jdbT w S k i) (i := k) (jdbe_1 ..) (by simp) (ob_cons ?_ (ob_cons rfl (ob_cons ?_ (ob_cons ?_ (ob_cons ?_ (ob_cons ?_ (ob_cons ?_ (ob_cons ?_ (ob_cons ?_ (ob_cons ?_ (ob_cons rfl (ob_cons (Nat.le_refl _) (ob_cons (.inl ⟨rfl, rfl⟩) (ob_cons ?_ (ob_cons ?_ (ob_cons ?_ (ob_cons ?_ (ob_cons ?_ (ob_cons ?_ (ob_cons ?_ (ob_cons ?_ (ob_cons ?_ (ob_cons ?_ (ob_cons ?_ (ob_cons ?_ (ob_cons rfl (ob_cons ?_ (ob_cons ?_ (ob_cons ?_ (ob_cons ?_ ob_nil))))))))))))))))))))))))))))))
    · exact rfl
    · exact rfl
    · exact rfl
    · exact rfl
    · exact rfl
    · exact rfl
    · exact rfl
    · exact rfl
    · exact rfl
    · exact rfl
    · exact rfl
    · exact rfl
    · exact rfl
    · exact rfl
    · exact rfl
    · exact rfl
    · exact rfl
    · exact fun _ => rfl
    · with_reducible assumption
    · exact notF0 (decide_eq_true hov)
    · exact decide_eq_true hov
    · exact hit.1
    · exact hit.2.l
    · exact hit.2.h
    · with_reducible assumption

theorem ldca_1 (w : Int) (S : MS) (k : Nat) (ii : Nat) : roundB ETf 2000 ldcL ((ldcU w S k).hp) [] (ldcT w S k ii) [Hint.b true, Hint.b false] (ldcT w S k (ii + 1)) =
 some (Ex.norm, [(0 : Nat) = 0,
 (0 : Nat) = 0,
 w = w,
 (0 : Nat) = 0,
 (0 : Nat) = 0,
 IntKind.i64.wrap (Int.ofNat ii + 1 + 1) = Int.ofNat (ii + 1) + 1,
 (lvX (ldIt S w ii).S (ldIt S w ii).o).ln = (ldIt S w (ii + 1)).o.ln,
 (lvX (ldIt S w ii).S (ldIt S w ii).o).bl = (ldIt S w (ii + 1)).o.bl,
 (lvX (ldIt S w ii).S (ldIt S w ii).o).wd = (ldIt S w (ii + 1)).o.wd,
 (lvX (ldIt S w ii).S (ldIt S w ii).o).e = (ldIt S w (ii + 1)).o.e,
 (lvX (ldIt S w ii).S (ldIt S w ii).o).th = (ldIt S w (ii + 1)).o.th,
 true = true,
 (1 : Nat) ≤ (1 : Nat),
 tabF tab = tabF tab ∧ plainSh (List.map kindOfV tab) = true ∨ ∀ (i : Nat), i < 1 → rowOb (List.map kindOfV tab) 0 (tabF tab i) (tabF tab i),
 (lvY (ldIt S w ii).S (ldIt S w ii).o).st = (ldIt S w (ii + 1)).S.st,
 (lvY (ldIt S w ii).S (ldIt S w ii).o).L.c = (ldIt S w (ii + 1)).S.L.c,
 (lvY (ldIt S w ii).S (ldIt S w ii).o).L.k = (ldIt S w (ii + 1)).S.L.k,
 (lvY (ldIt S w ii).S (ldIt S w ii).o).L.a = (ldIt S w (ii + 1)).S.L.a,
 (lvY (ldIt S w ii).S (ldIt S w ii).o).L.f = (ldIt S w (ii + 1)).S.L.f,
 (lvY (ldIt S w ii).S (ldIt S w ii).o).L.w = (ldIt S w (ii + 1)).S.L.w,
 (lvY (ldIt S w ii).S (ldIt S w ii).o).L.i = (ldIt S w (ii + 1)).S.L.i,
 (lvY (ldIt S w ii).S (ldIt S w ii).o).L.d = (ldIt S w (ii + 1)).S.L.d,
 ∀ (k : List Int), (lvY (ldIt S w ii).S (ldIt S w ii).o).M k = (ldIt S w (ii + 1)).S.M k,
 decide ((lvX (ldIt S w ii).S (ldIt S w ii).o).ln = 0) = false,
 tabF tab = tabF tab,
 U64 (ldIt S w ii).S,
 Ln6 (ldIt S w ii).o.ln,
 R64 (ldIt S w ii).o.wd,
 decide (Int.ofNat ii + 1 ≤ 40) = true]) := by kernel_rfl
theorem ldce_1 (w : Int) (S : MS) (k : Nat) (ii : Nat) : roundB ETf 2000 ldcL ((ldcU w S k).hp) [] (ldcT w S k ii) [Hint.b true, Hint.b true] (ldcX w S k ii) =
 some (Ex.ret, [(lvX (ldIt S w ii).S (ldIt S w ii).o).e = (ldIt S w (ii + 1)).o.e,
 Int.ofNat ii + 1 = Int.ofNat ii + 1,
 (lvX (ldIt S w ii).S (ldIt S w ii).o).ln = (ldIt S w (ii + 1)).o.ln,
 (lvX (ldIt S w ii).S (ldIt S w ii).o).bl = (ldIt S w (ii + 1)).o.bl,
 (lvX (ldIt S w ii).S (ldIt S w ii).o).wd = (ldIt S w (ii + 1)).o.wd,
 (lvX (ldIt S w ii).S (ldIt S w ii).o).e = (ldIt S w (ii + 1)).o.e,
 (lvX (ldIt S w ii).S (ldIt S w ii).o).th = (ldIt S w (ii + 1)).o.th,
 true = true,
 (1 : Nat) ≤ (1 : Nat),
 tabF tab = tabF tab ∧ plainSh (List.map kindOfV tab) = true ∨ ∀ (i : Nat), i < 1 → rowOb (List.map kindOfV tab) 0 (tabF tab i) (tabF tab i),
 (lvY (ldIt S w ii).S (ldIt S w ii).o).st = (ldIt S w (ii + 1)).S.st,
 (lvY (ldIt S w ii).S (ldIt S w ii).o).L.c = (ldIt S w (ii + 1)).S.L.c,
 (lvY (ldIt S w ii).S (ldIt S w ii).o).L.k = (ldIt S w (ii + 1)).S.L.k,
 (lvY (ldIt S w ii).S (ldIt S w ii).o).L.a = (ldIt S w (ii + 1)).S.L.a,
 (lvY (ldIt S w ii).S (ldIt S w ii).o).L.f = (ldIt S w (ii + 1)).S.L.f,
 (lvY (ldIt S w ii).S (ldIt S w ii).o).L.w = (ldIt S w (ii + 1)).S.L.w,
 (lvY (ldIt S w ii).S (ldIt S w ii).o).L.i = (ldIt S w (ii + 1)).S.L.i,
 (lvY (ldIt S w ii).S (ldIt S w ii).o).L.d = (ldIt S w (ii + 1)).S.L.d,
 ∀ (k : List Int), (lvY (ldIt S w ii).S (ldIt S w ii).o).M k = (ldIt S w (ii + 1)).S.M k,
 decide ((lvX (ldIt S w ii).S (ldIt S w ii).o).ln = 0) = true,
 tabF tab = tabF tab,
 U64 (ldIt S w ii).S,
 Ln6 (ldIt S w ii).o.ln,
 R64 (ldIt S w ii).o.wd,
 decide (Int.ofNat ii + 1 ≤ 40) = true]) := by kernel_rfl
theorem ldci_1 (w : Int) (S : MS) (k : Nat) : castSt ((ldcU w S k).hp) [] (ldcU w S k) (ldcT w S k 0) =
 some ([(0 : Nat) = 0,
 (0 : Nat) = 0,
 w = w,
 (0 : Nat) = 0,
 (0 : Nat) = 0,
 (1 : Int) = 1,
 (1 : Int) = 1,
 IntKind.i64.wrap (w.tdiv 4) = (ldIt S w 0).o.bl,
 (0 : Int) = 0,
 (0 : Int) = 0,
 w = (ldIt S w 0).o.th,
 true = true,
 (1 : Nat) ≤ (1 : Nat),
 tabF tab = tabF tab ∧ plainSh (List.map kindOfV tab) = true ∨ ∀ (i : Nat), i < 1 → rowOb (List.map kindOfV tab) 0 (tabF tab i) (tabF tab i),
 S.st = (ldIt S w 0).S.st,
 S.L.c = (ldIt S w 0).S.L.c,
 S.L.k = (ldIt S w 0).S.L.k,
 S.L.a = (ldIt S w 0).S.L.a,
 S.L.f = (ldIt S w 0).S.L.f,
 S.L.w = (ldIt S w 0).S.L.w,
 S.L.i = (ldIt S w 0).S.L.i,
 S.L.d = (ldIt S w 0).S.L.d,
 ∀ (k : List Int), S.M k = (ldIt S w 0).S.M k]) := by kernel_rfl
theorem ldc_lp (w : Int) (S : MS) (k : Nat) (hu : U64 S) (hat : LdAt S w (k + 1)) : ldcLP w S k := by
  refine loop_rule ETf_ok (I := Nat) (fun i => ldcT w S k i) (fun i => k - i) (fun i => i ≤ k) ?_ (fun ii hi => ?_)
  ·
    refine ⟨0, [], _, Nat.zero_le _, ldci_1 .., (ob_cons rfl (ob_cons rfl (ob_cons rfl (ob_cons rfl (ob_cons rfl (ob_cons rfl (ob_cons rfl (ob_cons ?_ (ob_cons rfl (ob_cons rfl (ob_cons ?_ (ob_cons rfl (ob_cons (Nat.le_refl _) (ob_cons (.inl ⟨rfl, rfl⟩) (ob_cons ?_ (ob_cons ?_ (ob_cons ?_ (ob_cons ?_ (ob_cons ?_ (ob_cons ?_ (ob_cons ?_ (ob_cons ?_ (ob_cons ?_ ob_nil)))))))))))))))))))))))⟩
    · exact rfl
    · exact rfl
    · exact rfl
    · exact rfl
    · exact rfl
    · exact rfl
    · exact rfl
    · exact rfl
    · exact rfl
    · exact rfl
    · exact fun _ => rfl
  have hi : ii ≤ k := hi
  have hit := ldIt_ok hu w ii
  have hk1 := hat.1
  have hk2 := hat.2.1
  have hno : ii + 1 < k + 1 → ¬ (ldIt S w (ii + 1)).o.ln = 0 := fun h => hat.2.2.2 (ii + 1) (by omega) h
  have ex1 : IntKind.i64.wrap (Int.ofNat ii + 1 + 1) = Int.ofNat (ii + 1) + 1 := by rw [i64w (by simp; omega) (by simp; omega)]; simp
  have ex2 : decide (Int.ofNat ii + 1 ≤ 40) = true := decide_eq_true (by simp; omega)
  by_cases c : ii < k
  · skip
    refine round_norm (s0 := ldcU w S k) (T := fun i => ldcT w S k i) (i := ii) (ii + 1) (ldca_1 ..) (ob_cons rfl (ob_cons rfl (ob_cons rfl (ob_cons rfl (ob_cons rfl (ob_cons ?_ (ob_cons ?_ (ob_cons ?_ (ob_cons ?_ (ob_cons ?_ (ob_cons ?_ (ob_cons rfl (ob_cons (Nat.le_refl _) (ob_cons (.inl ⟨rfl, rfl⟩) (ob_cons ?_ (ob_cons ?_ (ob_cons ?_ (ob_cons ?_ (ob_cons ?_ (ob_cons ?_ (ob_cons ?_ (ob_cons ?_ (ob_cons ?_ (ob_cons ?_ (ob_cons rfl (ob_cons ?_ (ob_cons ?_ (ob_cons ?_ (ob_cons ?_ ob_nil))))))))))))))))))))))))))))) (by show ii + 1 ≤ k; omega) (by show k - (ii + 1) < k - ii; omega)
    · with_reducible assumption
    · exact rfl
    · exact rfl
    · exact rfl
    · exact rfl
    · exact rfl
    · exact rfl
    · exact rfl
    · exact rfl
    · exact rfl
    · exact rfl
    · exact rfl
    · exact rfl
    · exact rfl
    · exact fun _ => rfl
    · exact decide_eq_false (hno (by omega))
    · exact hit.1
    · exact hit.2.l
    · exact hit.2.h
    · with_reducible assumption
  · obtain rfl : k = ii := by omega
    have hov : (ldIt S w (k + 1)).o.ln = 0 := hat.2.2.1

    refine round_exit (s0 := ldcU w S k) (T := fun i => ldcT w S k i) (i := k) (ldce_1 ..) (by simp) (ob_cons ?_ (ob_cons rfl (ob_cons ?_ (ob_cons ?_ (ob_cons ?_ (ob_cons ?_ (ob_cons ?_ (ob_cons rfl (ob_cons (Nat.le_refl _) (ob_cons (.inl ⟨rfl, rfl⟩) (ob_cons ?_ (ob_cons ?_ (ob_cons ?_ (ob_cons ?_ (ob_cons ?_ (ob_cons ?_ (ob_cons ?_ (ob_cons ?_ (ob_cons ?_ (ob_cons ?_ (ob_cons rfl (ob_cons ?_ (ob_cons ?_ (ob_cons ?_ (ob_cons ?_ ob_nil)))))))))))))))))))))))))
    · exact rfl
    · exact rfl
    · exact rfl
    · exact rfl
    · exact rfl
    · exact rfl
    · exact rfl
    · exact rfl
    · exact rfl
    · exact rfl
    · exact rfl
    · exact rfl
    · exact rfl
    · exact rfl
    · exact fun _ => rfl
    · exact decide_eq_true hov
    · exact hit.1
    · exact hit.2.l
    · exact hit.2.h
    · with_reducible assumption

end Go.Proofs.YtmndhjodbnojdaaDoor
