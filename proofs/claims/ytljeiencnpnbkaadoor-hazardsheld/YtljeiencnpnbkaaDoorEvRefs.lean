/-
  EvRefs and what follows it.
-/
import Derived.Test.YtljeiencnpnbkaaDoorEvLoc2
import Derived.Test.YtljeiencnpnbkaaDoorUWr
/-
  The keys of a map of refs, in order: plain definitions and facts.
-/
set_option linter.unusedSimpArgs false
set_option linter.unusedVariables false
namespace Go.Ev
abbrev K2 := Int × Int
def ltR (x y : K2) : Prop := x.1 < y.1 ∨ x.1 = y.1 ∧ x.2 < y.2
theorem ltR_irrefl (x : K2) : ¬ ltR x x := by unfold ltR; omega
theorem ltR_trans {x y z : K2} (h1 : ltR x y) (h2 : ltR y z) : ltR x z := by unfold ltR at *; omega
theorem ltR_total {x y : K2} (h1 : ¬ ltR x y) (h2 : ¬ ltR y x) : x = y := by
  unfold ltR at h1 h2
  exact Prod.ext (by omega) (by omega)
/-- A list is the keys of f, in order (keys: a slot, a generation, no mark). -/
structure IsHl (f : List Int → Option Int) (l : List K2) : Prop where
  sorted : l.Pairwise ltR
  mem : ∀ k, k ∈ l ↔ f [k.1, k.2, 0] ≠ none
theorem sortedR_eq : ∀ (l m : List K2), l.Pairwise ltR → m.Pairwise ltR → (∀ x, x ∈ l ↔ x ∈ m) → l = m
  | [], [], _, _, _ => rfl
  | [], y :: m, _, _, h => by have := (h y).2 (List.mem_cons_self ..); cases this
  | x :: l, [], _, _, h => by have := (h x).1 (List.mem_cons_self ..); cases this
  | x :: l, y :: m, hl, hm, h => by
    obtain ⟨a1, a2⟩ := List.pairwise_cons.1 hl
    obtain ⟨b1, b2⟩ := List.pairwise_cons.1 hm
    have exy : x = y := by
      rcases List.mem_cons.1 ((h x).1 (List.mem_cons_self ..)) with e | e
      · exact e
      · rcases List.mem_cons.1 ((h y).2 (List.mem_cons_self ..)) with e2 | e2
        · exact e2.symm
        · exact (ltR_irrefl _ (ltR_trans (a1 y e2) (b1 x e))).elim
    subst exy
    rw [sortedR_eq l m a2 b2 (fun z => ?_)]
    constructor
    · intro hz
      rcases List.mem_cons.1 ((h z).1 (List.mem_cons_of_mem _ hz)) with e | e
      · subst e; exact (ltR_irrefl _ (a1 z hz)).elim
      · exact e
    · intro hz
      rcases List.mem_cons.1 ((h z).2 (List.mem_cons_of_mem _ hz)) with e | e
      · subst e; exact (ltR_irrefl _ (b1 z hz)).elim
      · exact e
theorem IsHl.unique {f : List Int → Option Int} {l m : List K2} (h : IsHl f l) (h' : IsHl f m) : l = m := sortedR_eq l m h.sorted h'.sorted (fun k => (h.mem k).trans (h'.mem k).symm)
open Classical in
noncomputable def hlF (f : List Int → Option Int) : List K2 := if h : ∃ l, IsHl f l then Classical.choose h else []
theorem hlF_eq {f : List Int → Option Int} {l : List K2} (h : IsHl f l) : hlF f = l := by
  have hex : ∃ l, IsHl f l := ⟨l, h⟩
  unfold hlF
  rw [dif_pos hex]
  exact (Classical.choose_spec hex).unique h
def rSh : List CK := [.int .i64, .int .u32, .bool]
/-- Refs, as rows. -/
def rfF (l : List K2) : Nat → Nat → AV := fun i j => match l[i]? with
  | some x => match j with
    | 0 => .sym .i64 x.1
    | 1 => .sym .u32 x.2
    | _ => .symb false
  | none => match j with
    | 0 => .sym .i64 0
    | 1 => .sym .u32 0
    | _ => .symb false
/-- All keys of a map are refs without a mark, and there are not too many. -/
def RefM (f : List Int → Option Int) (n : Nat) : Prop := (∃ l : List (List Int), l.length ≤ n ∧ ∀ k v, f k = some v → k ∈ l) ∧ ∀ a b c, f [a, b, c] ≠ none → c = 0
end Go.Ev

/-
  Hazards: what is held: definitions.
-/
set_option linter.unusedSimpArgs false
set_option linter.unusedVariables false
namespace Go.Proofs.YtljeiencnpnbkaaDoor
open Go.Ev
/-- One more word of a hazard. -/
def hAdd (M : List Int → Option Int) (w : Int) : List Int → Option Int :=
  if hSlot (hUn w) ≥ 0 then setKey M [hSlot (hUn w), rGen (hUn w), 0] (some (IntKind.i64.wrap (mget M [hSlot (hUn w), rGen (hUn w), 0] + 1))) else M
theorem hAdd_y {M : List Int → Option Int} {w : Int} (h : hSlot (hUn w) ≥ 0) : hAdd M w = setKey M [hSlot (hUn w), rGen (hUn w), 0] (some (IntKind.i64.wrap (mget M [hSlot (hUn w), rGen (hUn w), 0] + 1))) := if_pos h
theorem hAdd_n {M : List Int → Option Int} {w : Int} (h : ¬ hSlot (hUn w) ≥ 0) : hAdd M w = M := if_neg h
def hM (f : Nat → Nat → AV) : Nat → List Int → Option Int
  | 0 => fun _ => none
  | i + 1 => hAdd (hAdd (hAdd (hM f i) (avInt (f (0 + i) 7))) (avInt (f (0 + i) 8))) (avInt (f (0 + i) 9))
noncomputable def EHm : Env := envG Tryd.prog [(59, tabSP 0 tab unmS), (111, tabSP 0 tab arfS)]
theorem EHm_ok : EnvOk EHm := envG_ok mgood ⟨tabSP_ok rfl unmS_ok, tabSP_ok rfl arfS_ok, trivial⟩
/-- One more thing that a contract asks. -/
def ob1 (p : Prop) (R : LR) : LR := ⟨R.k, R.v, R.heap, R.n, R.wr, p :: R.ob⟩
theorem loc_ob1 {P : Program} {f : FuncId} {la : List AV} {lh : List (Nat × AO)} {R : LR} {p : Prop} (h : p → LocOk P f la lh R) : LocOk P f la lh (ob1 p R) := by
  intro ρ w hob
  exact h (hob _ (List.mem_cons_self ..)) ρ w (fun q hq => hob q (List.mem_cons_of_mem _ hq))
end Go.Proofs.YtljeiencnpnbkaaDoor
