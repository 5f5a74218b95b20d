/-
  JPs and what follows it.
-/
import Derived.Test.YtmndhjodbnojdaaDoorJPr
/-
  taken: definitions.
-/
set_option linter.unusedSimpArgs false
set_option linter.unusedVariables false
namespace Go.Proofs.YtmndhjodbnojdaaDoor
open Go.Ev
noncomputable def ETk : Env := envG Tryd.prog [(37, locSP teSpec)]
theorem ETk_ok : EnvOk ETk := envG_ok mgood ⟨locSP_ok teSpec_ok, trivial⟩
structure TI where
  S : MS
  o : TO
  n : Nat
  E : Nat → Enty
def y0 : Enty := ⟨0, 0, false, 0, 0, 0⟩
/-- A Take by one alone: i steps. -/
noncomputable def tkIt (S : MS) : Nat → TI
  | 0 => ⟨S, ⟨1, 0, 0, y0⟩, 0, fun _ => y0⟩
  | i + 1 => ⟨teY (tkIt S i).S (tkIt S i).o, teX (tkIt S i).n (tkIt S i).S (tkIt S i).o, teNX (tkIt S i).n (tkIt S i).o, teEX (tkIt S i).n (tkIt S i).E (tkIt S i).S (tkIt S i).o⟩
structure TeOk (o : TO) : Prop where
  l : TLn o.ln
  h : R64 o.h
theorem teS_u {S : MS} {o : TO} (h : U64 S) : U64 (teS S o) := by
  unfold teS
  repeat' split
  all_goals first | exact h.load _ _ _ | exact h.cas _ _ _ _ _ (hHead_r' _ _) | exact h
theorem teO_ok {n : Nat} {S : MS} {o : TO} (h : U64 S) (ho : TeOk o) : TeOk (teO n S o) := by
  obtain ⟨h1, h2⟩ := ho
  unfold teO TLn at *
  repeat' split
  all_goals first | exact ⟨.inl rfl, h _⟩ | exact ⟨.inr (.inr (.inl rfl)), h _⟩ | exact ⟨.inr (.inr (.inr (.inl rfl))), h2⟩ | exact ⟨.inr (.inl rfl), h2⟩ | exact ⟨.inr (.inr (.inr (.inr (.inl rfl)))), h2⟩ | exact ⟨.inr (.inr (.inr (.inr (.inr (.inl rfl))))), h2⟩ | exact ⟨.inr (.inr (.inr (.inr (.inr (.inr (.inl rfl)))))), h2⟩ | exact ⟨.inr (.inr (.inr (.inr (.inr (.inr (.inr rfl)))))), h2⟩ | exact ⟨.inl rfl, h2⟩ | exact ⟨h1, h2⟩
theorem tkIt_ok {S : MS} (h : U64 S) : ∀ i, U64 (tkIt S i).S ∧ TeOk (tkIt S i).o ∧ (tkIt S i).n ≤ i
  | 0 => ⟨h, ⟨.inr (.inl rfl), z0⟩, Nat.le_refl _⟩
  | i + 1 => by
    obtain ⟨h1, h2, h3⟩ := tkIt_ok h i
    refine ⟨?_, ?_, ?_⟩
    · show U64 (teY _ _); rw [teY_eq]; exact teS_u h1
    · show TeOk (teX _ _ _); rw [teX_eq]; exact teO_ok h1 h2
    · show teNX _ _ ≤ _; rw [teNX_eq]; unfold teN; split <;> omega
end Go.Proofs.YtmndhjodbnojdaaDoor

/-
  taken: its loop: definitions.
-/
set_option linter.unusedSimpArgs false
set_option linter.unusedVariables false
namespace Go.Proofs.YtmndhjodbnojdaaDoor
open Go.Ev

noncomputable def tklU (t : Int) (S : MS) (k : Nat) : St := ⟨[.ptr 1 0 0, .sym .i64 t, .top, .top, .nils, .bool false, .ptr 3 0 0, .int .i64 1] ++ List.replicate 16 .top, ⟨[(3, .cells 10 [.int .i64 1, .int .u64 0, .int .i64 0, .int .i64 0, .int .u32 0, .bool false, .int .u64 0, .int .u64 0, .int .u64 0, .nils]), (gnm 0, tabAO tab), (1, .cells 9 (.map 2 :: lsL S.st S.L)), (2, .map 115 S.M)], 4, gnm 0, [], [], [], false⟩⟩
noncomputable def tklT (t : Int) (S : MS) (k : Nat) (i : Nat) : St := ⟨[.ptr 1 0 0, .sym .i64 t, .top, .top, .nils, .bool false, .ptr 3 0 0, .sym .i64 (Int.ofNat i + 1)] ++ List.replicate 16 .top, ⟨[(3, .cells 10 [.sym .i64 (tkIt S i).o.ln, .sym .u64 (tkIt S i).o.h, .sym .i64 (tkIt S i).o.sl, .sym .i64 (tkIt S i).o.e.slot, .sym .u32 (tkIt S i).o.e.gen, .symb (tkIt S i).o.e.mark, .sym .u64 (tkIt S i).o.e.birth, .sym .u64 (tkIt S i).o.e.epoch, .sym .u64 (tkIt S i).o.e.era, .ss 6 4 0 (tkIt S i).n none]), (4, .arr 6 [.int .i64, .int .u32, .bool, .int .u64, .int .u64, .int .u64] false (tkIt S i).n (yF (tkIt S i).E)), (gnm 0, tabAO tab), (1, .cells 9 (.map 2 :: lsL (tkIt S i).S.st (tkIt S i).S.L)), (2, .map 115 (tkIt S i).S.M)], 5, gnm 0, [], [], [3, 1, 2], false⟩⟩
noncomputable def tklX (t : Int) (S : MS) (k : Nat) (i : Nat) : St := ⟨[.ptr 1 0 0, .top, .top, .top, .nils, .bool false, .ptr 3 0 0] ++ List.replicate 17 .top, ⟨[(3, .cells 10 [.sym .i64 (tkIt S i).o.ln, .sym .u64 (tkIt S i).o.h, .sym .i64 (tkIt S i).o.sl, .sym .i64 (tkIt S i).o.e.slot, .sym .u32 (tkIt S i).o.e.gen, .symb (tkIt S i).o.e.mark, .sym .u64 (tkIt S i).o.e.birth, .sym .u64 (tkIt S i).o.e.epoch, .sym .u64 (tkIt S i).o.e.era, .ss 6 4 0 (tkIt S i).n none]), (4, .arr 6 [.int .i64, .int .u32, .bool, .int .u64, .int .u64, .int .u64] false (tkIt S i).n (yF (tkIt S i).E)), (gnm 0, tabAO tab), (1, .cells 9 (.map 2 :: lsL (tkIt S i).S.st (tkIt S i).S.L)), (2, .map 115 (tkIt S i).S.M)], 5, gnm 0, [], [], [3, 1, 2], false⟩⟩
noncomputable abbrev tklL : Code := loopAt Tryd.prog 42 0
noncomputable def tklLP (t : Int) (S : MS) (k : Nat) : Prop := LoopHolds Tryd.prog tklL (tklU t S k) (.exit 0) (tklX t S k (5 * k + 1))
end Go.Proofs.YtmndhjodbnojdaaDoor
