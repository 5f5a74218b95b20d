/-
  An environment out of contracts, some of which a hint chooses.
-/
import Derived.Test.YtmlfmmnnbdlabaaEvAux
set_option linter.unusedSimpArgs false
set_option linter.unusedVariables false
namespace Go.Ev
abbrev SP := List AV → Hp → Option (AV × Hp)
def SPOk (P : Program) (f : FuncId) (g : SP) : Prop := ∀ args h v h', g args h = some (v, h') → CaOk P f args h v h'
abbrev SpecOk (P : Program) (f : FuncId) (s : LSpec) : Prop := ∀ la lh R, s la lh = some R → LocOk P f la lh R
def locSP (s : LSpec) : SP := applyLoc (nrm s)
theorem locSP_ok {P : Program} {f : FuncId} {s : LSpec} (h : SpecOk P f s) : SPOk P f (locSP s) := fun _ _ _ _ e => applyLoc_ok (nrm_ok h) e
/-- As the evaluator has it, closed values as they are. -/
def rawSP (s : LSpec) : SP := applyLoc s
theorem rawSP_ok {P : Program} {f : FuncId} {s : LSpec} (h : SpecOk P f s) : SPOk P f (rawSP s) := fun _ _ _ _ e => applyLoc_ok h e
def altSP (s t : LSpec) : SP := fun args h => match h.hints with
  | .b c :: r => match c with
    | true => applyLoc (nrm s) args { h with hints := r }
    | false => applyLoc (nrm t) args { h with hints := r }
  | _ => none
theorem altSP_ok {P : Program} {f : FuncId} {s t : LSpec} (hs : SpecOk P f s) (ht : SpecOk P f t) : SPOk P f (altSP s t) := by
  intro args h v h' e
  unfold altSP at e
  split at e
  · rename_i c r hr
    split at e
    · have o := applyLoc_ok (nrm_ok hs) e
      exact ⟨⟨o.mono.ob, o.mono.nxt, o.mono.hi, o.mono.wr⟩, fun ho ρ w hr hf hg xs hx => (o.wp ho ρ w hr hf hg xs hx).mono fun e w' ⟨x, ρ', a, b, c⟩ => ⟨x, ρ', a, b, ⟨c.le, c.new, c.rep, c.fr, c.own⟩⟩⟩
    · have o := applyLoc_ok (nrm_ok ht) e
      exact ⟨⟨o.mono.ob, o.mono.nxt, o.mono.hi, o.mono.wr⟩, fun ho ρ w hr hf hg xs hx => (o.wp ho ρ w hr hf hg xs hx).mono fun e w' ⟨x, ρ', a, b, c⟩ => ⟨x, ρ', a, b, ⟨c.le, c.new, c.rep, c.fr, c.own⟩⟩⟩
  · cases e
def orSP (a b : SP) : SP := fun args h => match a args h with
  | some x => some x
  | none => b args h
theorem orSP_ok {P : Program} {f : FuncId} {a b : SP} (ha : SPOk P f a) (hb : SPOk P f b) : SPOk P f (orSP a b) := by
  intro args h v h' e
  unfold orSP at e
  split at e
  · rename_i x hx; cases e; exact ha _ _ _ _ hx
  · exact hb _ _ _ _ e
def spOf : List (FuncId × SP) → FuncId → Option SP
  | [], _ => none
  | (g, s) :: r, f => match Nat.beq g f with
    | true => some s
    | false => spOf r f
def SPsOk (P : Program) : List (FuncId × SP) → Prop
  | [] => True
  | (g, s) :: r => SPOk P g s ∧ SPsOk P r
theorem spOf_ok {P : Program} : ∀ (l : List (FuncId × SP)), SPsOk P l → ∀ f g, spOf l f = some g → SPOk P f g
  | [], _, f, g, e => by cases e
  | (q, s) :: r, ok, f, g, e => by
    simp only [spOf] at e
    split at e
    · rename_i hq
      have hq := Nat.eq_of_beq_eq_true hq; subst hq
      cases e
      exact ok.1
    · exact spOf_ok r ok.2 f g e
def envG (P : Program) (l : List (FuncId × SP)) : Env := ⟨P, spOf l, LoopHolds P⟩
theorem envG_ok {P : Program} (G : Good P) {l : List (FuncId × SP)} (ok : SPsOk P l) : EnvOk (envG P l) :=
  ⟨G, fun _ _ _ _ h => h, spOf_ok l ok⟩
end Go.Ev
