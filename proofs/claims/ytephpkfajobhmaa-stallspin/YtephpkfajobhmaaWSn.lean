/-
  A snapshot of a memory with one block, whose threads are owned: law18.snap as a contract.
-/
import Derived.Test.YtephpkfajobhmaaWMemC
import Derived.Test.YtephpkfajobhmaaEvOne
import Derived.Test.YtephpkfajobhmaaWFi
set_option linter.unusedSimpArgs false
set_option linter.unusedVariables false
namespace Go.Proofs.Ytephpkfajobhmaa
open Go.Ev
def wantS (k _a f : Int) : Bool := match k with
  | .ofNat 5 => true
  | .ofNat 8 => match f with
    | .ofNat 0 => true
    | _ => false
  | _ => false
noncomputable def ESn : Env := envG Try.prog [(16, orSP (rawSP (oneK wantS mldSpec)) (rawSP (dropK mldSpec)))]
theorem ESn_ok : EnvOk ESn := envG_ok mgood ⟨orSP_ok (rawSP_ok (oneK_ok mldSpec_ok)) (rawSP_ok (dropK_ok mldSpec_ok mld_obs)), trivial⟩
def itW : Nat → Int → Int
  | 0, s => s
  | n + 1, s => IntKind.i64.wrap (itW n s + 1)
def snL (M : List Int → Option Int) : List AV := [.int .u64 1, .sym .u64 (mget M (key 8 0 1)), .sym .u64 (mget M (key 8 0 2)), .sym .u64 (mget M (key 8 0 3)), .sym .u64 (mget M (key 8 0 4)), .sym .u64 (mget M (key 8 0 5)), .sym .u64 (mget M (key 8 0 6)), .sym .u64 (mget M (key 8 0 7)), .sym .u64 (mget M (key 8 0 8)), .sym .u64 (mget M (key 8 0 9)), .int .u64 1, .sym .u64 (mget M (key 8 1 1)), .sym .u64 (mget M (key 8 1 2)), .sym .u64 (mget M (key 8 1 3)), .sym .u64 (mget M (key 8 1 4)), .sym .u64 (mget M (key 8 1 5)), .sym .u64 (mget M (key 8 1 6)), .sym .u64 (mget M (key 8 1 7)), .sym .u64 (mget M (key 8 1 8)), .sym .u64 (mget M (key 8 1 9)), .int .u64 1, .sym .u64 (mget M (key 8 2 1)), .sym .u64 (mget M (key 8 2 2)), .sym .u64 (mget M (key 8 2 3)), .sym .u64 (mget M (key 8 2 4)), .sym .u64 (mget M (key 8 2 5)), .sym .u64 (mget M (key 8 2 6)), .sym .u64 (mget M (key 8 2 7)), .sym .u64 (mget M (key 8 2 8)), .sym .u64 (mget M (key 8 2 9)), .int .u64 1, .sym .u64 (mget M (key 8 3 1)), .sym .u64 (mget M (key 8 3 2)), .sym .u64 (mget M (key 8 3 3)), .sym .u64 (mget M (key 8 3 4)), .sym .u64 (mget M (key 8 3 5)), .sym .u64 (mget M (key 8 3 6)), .sym .u64 (mget M (key 8 3 7)), .sym .u64 (mget M (key 8 3 8)), .sym .u64 (mget M (key 8 3 9))]
def snRow (M : List Int → Option Int) (i j : Nat) : AV := .sym .u64 (mget M (key 8 i j))
theorem sn_row (M : List Int → Option Int) (h8 : ∀ i : Int, 0 ≤ i → i < 4 → mget M (key 8 i 0) = 1) : ∀ i, i < 4 → rowOb tSh 0 (listRow 10 (snL M) i) (snRow M i) := by
  intro i hi
  have h0 := h8 0 (by decide) (by decide)
  have h1 := h8 1 (by decide) (by decide)
  have h2 := h8 2 (by decide) (by decide)
  have h3 := h8 3 (by decide) (by decide)
  rcases (show i = 0 ∨ i = 1 ∨ i = 2 ∨ i = 3 by omega) with rfl | rfl | rfl | rfl
  · exact ⟨congrArg (AV.sym .u64) h0, rfl, rfl, rfl, rfl, rfl, rfl, rfl, rfl, rfl, trivial⟩
  · exact ⟨congrArg (AV.sym .u64) h1, rfl, rfl, rfl, rfl, rfl, rfl, rfl, rfl, rfl, trivial⟩
  · exact ⟨congrArg (AV.sym .u64) h2, rfl, rfl, rfl, rfl, rfl, rfl, rfl, rfl, rfl, trivial⟩
  · exact ⟨congrArg (AV.sym .u64) h3, rfl, rfl, rfl, rfl, rfl, rfl, rfl, rfl, rfl, trivial⟩
section
variable (st c k a f w i : Int) (d : Bool) (M : List Int → Option Int)
noncomputable def snH : List (Nat × AO) := memH M st (lastL c k a f w i d)
noncomputable def snR : LR := ⟨2, .agg [.ss 10 3 0 4 (some 4), .sym .u64 0], [(3, .arr 10 tSh false 4 (snRow M))] ++ memH M (itW 41 st) (lastL 1 8 3 9 (mget M (key 8 3 9)) (mget M (key 8 3 9)) false), 1, [1, 2], [mget M (key 5 0 0) = 1, ∀ i : Int, 0 ≤ i → i < 4 → mget M (key 8 i 0) = 1]⟩
theorem sn_run : callBA ESn 8000 42 [.ptr 1 0 0] (snH st c k a f w i d M) (snR st M) [(3, Src.nm 299425259541931995548435791448133523012133195146294769726291100053516555028817220212978945190322712934437798489611529821745361657843720325801874049867874)] [] = some [(0 : Nat) = 0,
 (4 : Nat) = 4,
 (some 4 : Option Nat) = some 4,
 (0 : Int) = 0,
 (4 : Nat) = 4,
 ∀ i, i < 4 → rowOb tSh 0 (listRow 10 (snL M) i) (snRow M i),
 itW 41 st = itW 41 st,
 (1 : Int) = 1,
 (8 : Int) = 8,
 (3 : Int) = 3,
 (9 : Int) = 9,
 mget M (key 8 3 9) = mget M (key 8 3 9),
 mget M (key 8 3 9) = mget M (key 8 3 9),
 false = false,
 ∀ (k : List Int), M k = M k,
 mget M (key 8 3 0) = 1,
 mget M (key 8 2 0) = 1,
 mget M (key 8 1 0) = 1,
 mget M (key 8 0 0) = 1,
 mget M (key 5 0 0) = 1] := by kernel_rfl
theorem sn_loc : LocOk Try.prog 42 [.ptr 1 0 0] (snH st c k a f w i d M) (snR st M) := by
  refine loc_of_callA ESn_ok (fun hp => ?_)
  have h5 : mget M (key 5 0 0) = 1 := hp _ (List.mem_cons_self ..)
  have h8' : ∀ i : Int, 0 ≤ i → i < 4 → mget M (key 8 i 0) = 1 := hp _ (List.mem_cons_of_mem _ (List.mem_cons_self ..))
  have h8 : ∀ i : Int, 0 ≤ i → i < 4 → mget M (key 8 i 0) = 1 := h8'
  exact ⟨8000, [], _, _, sn_run st c k a f w i d M, ob_cons rfl (ob_cons rfl (ob_cons rfl (ob_cons rfl (ob_cons rfl (ob_cons (sn_row M h8) (ob_cons rfl (ob_cons rfl (ob_cons rfl (ob_cons rfl (ob_cons rfl (ob_cons rfl (ob_cons rfl (ob_cons rfl (ob_cons (fun _ => rfl) (ob_cons (h8 3 (by decide) (by decide)) (ob_cons (h8 2 (by decide) (by decide)) (ob_cons (h8 1 (by decide) (by decide)) (ob_cons (h8 0 (by decide) (by decide)) (ob_cons h5 (ob_nil))))))))))))))))))))⟩
end
noncomputable def snSpec : LSpec := fun la lh => match la, lh with
  | [.ptr z1 z2 z3], [(z4, .cells z5 [.map z6, .sym .i64 st, .sym .u8 c, .sym .u8 k, .sym .i64 a, .sym .i64 f, .sym .u64 w, .sym .u64 i, .symb d]), (z7, .map z8 M)] =>
    match Nat.beq z1 1 && (Nat.beq z2 0 && (Nat.beq z3 0 && (Nat.beq z4 1 && (Nat.beq z5 9 && (Nat.beq z6 2 && (Nat.beq z7 2 && (Nat.beq z8 26))))))) with
    | true => some (snR st M)
    | false => none
  | _, _ => none
theorem snSpec_ok (la : List AV) (lh : List (Nat × AO)) (R : LR) (h : snSpec la lh = some R) : LocOk Try.prog 42 la lh R := by
  unfold snSpec at h
  split at h
  · rename_i z1 z2 z3 z4 z5 z6 st c k a f w i d z7 z8 M
    split at h
    · rename_i hb
      simp only [Bool.and_eq_true] at hb
      obtain ⟨e1, e2, e3, e4, e5, e6, e7, e8⟩ := hb
      have e1 := Nat.eq_of_beq_eq_true e1; subst e1
      have e2 := Nat.eq_of_beq_eq_true e2; subst e2
      have e3 := Nat.eq_of_beq_eq_true e3; subst e3
      have e4 := Nat.eq_of_beq_eq_true e4; subst e4
      have e5 := Nat.eq_of_beq_eq_true e5; subst e5
      have e6 := Nat.eq_of_beq_eq_true e6; subst e6
      have e7 := Nat.eq_of_beq_eq_true e7; subst e7
      have e8 := Nat.eq_of_beq_eq_true e8; subst e8
      cases h
      exact sn_loc st c k a f w i d M
    · cases h
  · cases h
end Go.Proofs.Ytephpkfajobhmaa
