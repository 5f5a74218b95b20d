/-
  joinedOver: its loop.
-/
import Derived.Test.YtmndhjodbnojdaaDoorJTh0Def
set_option linter.unusedSimpArgs false
set_option linter.unusedVariables false
namespace Go.Proofs.YtmndhjodbnojdaaDoor
open Go.Ev
theorem ovla_1 (o : Int) (x : Int) (S : MS) (ii : Nat) : roundB ETo 2000 ovlL ((ovlU o x S).hp) [] (ovlT o x S ii) [Hint.b true, Hint.b true] (ovlT o x S (ii + 1)) =
 some (Ex.norm, [(0 : Nat) = 0,
 (0 : Nat) = 0,
 o = o,
 x = x,
 IntKind.i64.wrap (Int.ofNat ii + 1) = Int.ofNat (ii + 1),
 true = true,
 (1 : Nat) ≤ (1 : Nat),
 tabF tab = tabF tab ∧ plainSh (List.map kindOfV tab) = true ∨ ∀ (i : Nat), i < 1 → rowOb (List.map kindOfV tab) 0 (tabF tab i) (tabF tab i),
 IntKind.i64.wrap (IntKind.i64.wrap (IntKind.i64.wrap (IntKind.i64.wrap (IntKind.i64.wrap (IntKind.i64.wrap (IntKind.i64.wrap (IntKind.i64.wrap (IntKind.i64.wrap ((ovN x S ii).st + 1) + 1) + 1) + 1) + 1) + 1) + 1) + 1) + 1) = (ovN x S (ii + 1)).st,
 2 = (ovN x S (ii + 1)).L.c,
 8 = (ovN x S (ii + 1)).L.k,
 Int.ofNat ii = (ovN x S (ii + 1)).L.a,
 9 = (ovN x S (ii + 1)).L.f,
 mget (memPut (memPut (memPut (memPut (memPut (memPut (memPut (ovN x S ii).M 8 (Int.ofNat ii) 2 x) 8 (Int.ofNat ii) 3 x) 8 (Int.ofNat ii) 4 x) 8 (Int.ofNat ii) 5 x) 8 (Int.ofNat ii) 6 x) 8 (Int.ofNat ii) 7 x) 8 (Int.ofNat ii) 8 x) (key 8 (Int.ofNat ii) 9) = (ovN x S (ii + 1)).L.w,
 memIs (memPut (memPut (memPut (memPut (memPut (memPut (memPut (ovN x S ii).M 8 (Int.ofNat ii) 2 x) 8 (Int.ofNat ii) 3 x) 8 (Int.ofNat ii) 4 x) 8 (Int.ofNat ii) 5 x) 8 (Int.ofNat ii) 6 x) 8 (Int.ofNat ii) 7 x) 8 (Int.ofNat ii) 8 x) 8 (Int.ofNat ii) 9 x = (ovN x S (ii + 1)).L.i,
 false = (ovN x S (ii + 1)).L.d,
 ∀ (k : List Int), memPut (memPut (memPut (memPut (memPut (memPut (memPut (memPut (ovN x S ii).M 8 (Int.ofNat ii) 2 x) 8 (Int.ofNat ii) 3 x) 8 (Int.ofNat ii) 4 x) 8 (Int.ofNat ii) 5 x) 8 (Int.ofNat ii) 6 x) 8 (Int.ofNat ii) 7 x) 8 (Int.ofNat ii) 8 x) 8 (Int.ofNat ii) 9 x k = (ovN x S (ii + 1)).M k,
 (0 : Int) ≤ (8 : Int),
 (0 : Int) ≤ (8 : Int),
 (0 : Int) ≤ (8 : Int),
 (0 : Int) ≤ (8 : Int),
 (0 : Int) ≤ (8 : Int),
 (0 : Int) ≤ (8 : Int),
 (0 : Int) ≤ (8 : Int),
 (0 : Int) ≤ (8 : Int),
 (mget (ovN x S ii).M (key 8 (Int.ofNat ii) 0) == 0) = true,
 decide (Int.ofNat ii < 16) = true]) := by kernel_rfl
theorem ovlb_1 (o : Int) (x : Int) (S : MS) (ii : Nat) : roundB ETo 2000 ovlL ((ovlU o x S).hp) [] (ovlT o x S ii) [Hint.b true, Hint.b false] (ovlT o x S (ii + 1)) =
 some (Ex.norm, [(0 : Nat) = 0,
 (0 : Nat) = 0,
 o = o,
 x = x,
 IntKind.i64.wrap (Int.ofNat ii + 1) = Int.ofNat (ii + 1),
 true = true,
 (1 : Nat) ≤ (1 : Nat),
 tabF tab = tabF tab ∧ plainSh (List.map kindOfV tab) = true ∨ ∀ (i : Nat), i < 1 → rowOb (List.map kindOfV tab) 0 (tabF tab i) (tabF tab i),
 IntKind.i64.wrap ((ovN x S ii).st + 1) = (ovN x S (ii + 1)).st,
 1 = (ovN x S (ii + 1)).L.c,
 8 = (ovN x S (ii + 1)).L.k,
 Int.ofNat ii = (ovN x S (ii + 1)).L.a,
 0 = (ovN x S (ii + 1)).L.f,
 mget (ovN x S ii).M (key 8 (Int.ofNat ii) 0) = (ovN x S (ii + 1)).L.w,
 mget (ovN x S ii).M (key 8 (Int.ofNat ii) 0) = (ovN x S (ii + 1)).L.i,
 false = (ovN x S (ii + 1)).L.d,
 ∀ (k : List Int), (ovN x S ii).M k = (ovN x S (ii + 1)).M k,
 (mget (ovN x S ii).M (key 8 (Int.ofNat ii) 0) == 0) = false,
 decide (Int.ofNat ii < 16) = true]) := by kernel_rfl
theorem ovlx_1 (o : Int) (x : Int) (S : MS) (ii : Nat) : roundB ETo 2000 ovlL ((ovlU o x S).hp) [] (ovlT o x S ii) [Hint.b false] (ovlX o x S ii) =
 some (Ex.exit 0, [(0 : Nat) = 0,
 (0 : Nat) = 0,
 o = o,
 x = x,
 true = true,
 (1 : Nat) ≤ (1 : Nat),
 tabF tab = tabF tab ∧ plainSh (List.map kindOfV tab) = true ∨ ∀ (i : Nat), i < 1 → rowOb (List.map kindOfV tab) 0 (tabF tab i) (tabF tab i),
 (ovN x S ii).st = (ovN x S ii).st,
 (ovN x S ii).L.c = (ovN x S ii).L.c,
 (ovN x S ii).L.k = (ovN x S ii).L.k,
 (ovN x S ii).L.a = (ovN x S ii).L.a,
 (ovN x S ii).L.f = (ovN x S ii).L.f,
 (ovN x S ii).L.w = (ovN x S ii).L.w,
 (ovN x S ii).L.i = (ovN x S ii).L.i,
 (ovN x S ii).L.d = (ovN x S ii).L.d,
 ∀ (k : List Int), (ovN x S ii).M k = (ovN x S ii).M k,
 decide (Int.ofNat ii < 16) = false]) := by kernel_rfl
theorem ovli_1 (o : Int) (x : Int) (S : MS) : castSt ((ovlU o x S).hp) [] (ovlU o x S) (ovlT o x S 0) =
 some ([(0 : Nat) = 0,
 (0 : Nat) = 0,
 o = o,
 x = x,
 (0 : Int) = 0,
 true = true,
 (1 : Nat) ≤ (1 : Nat),
 tabF tab = tabF tab ∧ plainSh (List.map kindOfV tab) = true ∨ ∀ (i : Nat), i < 1 → rowOb (List.map kindOfV tab) 0 (tabF tab i) (tabF tab i),
 S.st = (ovN x S 0).st,
 S.L.c = (ovN x S 0).L.c,
 S.L.k = (ovN x S 0).L.k,
 S.L.a = (ovN x S 0).L.a,
 S.L.f = (ovN x S 0).L.f,
 S.L.w = (ovN x S 0).L.w,
 S.L.i = (ovN x S 0).L.i,
 S.L.d = (ovN x S 0).L.d,
 ∀ (k : List Int), S.M k = (ovN x S 0).M k]) := by kernel_rfl
theorem ovl_lp (o : Int) (x : Int) (S : MS) (hu : U64 S) (hx : R64 x) : ovlLP o x S := by
  refine loop_rule ETo_ok (I := Nat) (fun i => ovlT o x S i) (fun i => 16 - i) (fun i => i ≤ 16) ?_ (fun ii hi => ?_)
  ·
    refine ⟨0, [], _, Nat.zero_le _, ovli_1 .., (ob_cons rfl (ob_cons rfl (ob_cons rfl (ob_cons rfl (ob_cons rfl (ob_cons rfl (ob_cons (Nat.le_refl _) (ob_cons (.inl ⟨rfl, rfl⟩) (ob_cons ?_ (ob_cons ?_ (ob_cons ?_ (ob_cons ?_ (ob_cons ?_ (ob_cons ?_ (ob_cons ?_ (ob_cons ?_ (ob_cons ?_ ob_nil)))))))))))))))))⟩
    · exact rfl
    · exact rfl
    · exact rfl
    · exact rfl
    · exact rfl
    · exact rfl
    · exact rfl
    · exact rfl
    · exact fun _ => rfl
  have hi : ii ≤ 16 := hi
  by_cases c : ii < 16
  · have hgt : decide (Int.ofNat ii < 16) = true := decide_eq_true (by simp; omega)
    have ew : IntKind.i64.wrap (Int.ofNat ii + 1) = Int.ofNat (ii + 1) := by rw [i64w (by simp; omega) (by simp; omega)]; simp
    by_cases hz : mget (ovN x S ii).M (key 8 (Int.ofNat ii) 0) = 0
    · have hE := ovN_t hz
      have hz1 := eqT hz
      refine round_norm (s0 := ovlU o x S) (T := fun i => ovlT o x S i) (i := ii) (ii + 1) (ovla_1 ..) (ob_cons rfl (ob_cons rfl (ob_cons rfl (ob_cons rfl (ob_cons ?_ (ob_cons rfl (ob_cons (Nat.le_refl _) (ob_cons (.inl ⟨rfl, rfl⟩) (ob_cons ?_ (ob_cons ?_ (ob_cons ?_ (ob_cons ?_ (ob_cons ?_ (ob_cons ?_ (ob_cons ?_ (ob_cons ?_ (ob_cons ?_ (ob_cons (by decide) (ob_cons (by decide) (ob_cons (by decide) (ob_cons (by decide) (ob_cons (by decide) (ob_cons (by decide) (ob_cons (by decide) (ob_cons (by decide) (ob_cons ?_ (ob_cons ?_ ob_nil))))))))))))))))))))))))))) (by show ii + 1 ≤ 16; omega) (by show 16 - (ii + 1) < 16 - ii; omega)
      · with_reducible assumption
      · (rw [hE]; rfl)
      · (rw [hE]; rfl)
      · (rw [hE]; rfl)
      · (rw [hE]; rfl)
      · (rw [hE]; rfl)
      · (rw [hE]; rfl)
      · (rw [hE]; rfl)
      · (rw [hE]; rfl)
      · (rw [hE]; exact fun _ => rfl)
      · with_reducible assumption
      · with_reducible assumption
    · have hE := ovN_f hz
      have hz1 := eqF hz
      refine round_norm (s0 := ovlU o x S) (T := fun i => ovlT o x S i) (i := ii) (ii + 1) (ovlb_1 ..) (ob_cons rfl (ob_cons rfl (ob_cons rfl (ob_cons rfl (ob_cons ?_ (ob_cons rfl (ob_cons (Nat.le_refl _) (ob_cons (.inl ⟨rfl, rfl⟩) (ob_cons ?_ (ob_cons ?_ (ob_cons ?_ (ob_cons ?_ (ob_cons ?_ (ob_cons ?_ (ob_cons ?_ (ob_cons ?_ (ob_cons ?_ (ob_cons ?_ (ob_cons ?_ ob_nil))))))))))))))))))) (by show ii + 1 ≤ 16; omega) (by show 16 - (ii + 1) < 16 - ii; omega)
      · with_reducible assumption
      · (rw [hE]; rfl)
      · (rw [hE]; rfl)
      · (rw [hE]; rfl)
      · (rw [hE]; rfl)
      · (rw [hE]; rfl)
      · (rw [hE]; rfl)
      · (rw [hE]; rfl)
      · (rw [hE]; rfl)
      · (rw [hE]; exact fun _ => rfl)
      · with_reducible assumption
      · with_reducible assumption
  · have hgt : decide (Int.ofNat ii < 16) = false := decide_eq_false (by simp; omega)
    obtain rfl : ii = 16 := by omega
    refine round_exit (s0 := ovlU o x S) (T := fun i => ovlT o x S i) (i := 16) (ovlx_1 ..) (by simp) (ob_cons rfl (ob_cons rfl (ob_cons rfl (ob_cons rfl (ob_cons rfl (ob_cons (Nat.le_refl _) (ob_cons (.inl ⟨rfl, rfl⟩) (ob_cons rfl (ob_cons rfl (ob_cons rfl (ob_cons rfl (ob_cons rfl (ob_cons rfl (ob_cons rfl (ob_cons rfl (ob_cons (fun _ => rfl) (ob_cons ?_ ob_nil)))))))))))))))))
    · with_reducible assumption

end Go.Proofs.YtmndhjodbnojdaaDoor
