/-
  RetiresParts: the environment.
-/
import Derived.Test.YtmlfmmnnbdlabaaNrSc
import Derived.Test.YtmlfmmnnbdlabaaNrPaLaw
import Derived.Test.YtmlfmmnnbdlabaaEvAlt
import Derived.Test.YtmlfmmnnbdlabaaEvLaw
import Derived.Test.YtmlfmmnnbdlabaaEvDoor
set_option linter.unusedSimpArgs false
set_option linter.unusedVariables false
namespace Go.Proofs.Ytmlfmmnnbdlabaa
open Go.Ev
def altT (s t u : LSpec) : SP := fun args h => match h.hints with
  | .n c :: r => match c with
    | 0 => applyLoc (nrm s) args { h with hints := r }
    | 1 => applyLoc (nrm t) args { h with hints := r }
    | _ => applyLoc (nrm u) args { h with hints := r }
  | _ => none
theorem altT_ok {P : Program} {f : FuncId} {s t u : LSpec} (hs : SpecOk P f s) (ht : SpecOk P f t) (hu : SpecOk P f u) : SPOk P f (altT s t u) := by
  intro args h v h' e
  unfold altT at e
  split at e
  · rename_i c r hr
    split at e
    · have o := applyLoc_ok (nrm_ok hs) e
      exact ⟨⟨o.mono.ob, o.mono.nxt, o.mono.hi, o.mono.wr⟩, fun ho ρ w hr hf hg xs hx => (o.wp ho ρ w hr hf hg xs hx).mono fun e w' ⟨x, ρ', a, b, c⟩ => ⟨x, ρ', a, b, ⟨c.le, c.new, c.rep, c.fr, c.own⟩⟩⟩
    · have o := applyLoc_ok (nrm_ok ht) e
      exact ⟨⟨o.mono.ob, o.mono.nxt, o.mono.hi, o.mono.wr⟩, fun ho ρ w hr hf hg xs hx => (o.wp ho ρ w hr hf hg xs hx).mono fun e w' ⟨x, ρ', a, b, c⟩ => ⟨x, ρ', a, b, ⟨c.le, c.new, c.rep, c.fr, c.own⟩⟩⟩
    · have o := applyLoc_ok (nrm_ok hu) e
      exact ⟨⟨o.mono.ob, o.mono.nxt, o.mono.hi, o.mono.wr⟩, fun ho ρ w hr hf hg xs hx => (o.wp ho ρ w hr hf hg xs hx).mono fun e w' ⟨x, ρ', a, b, c⟩ => ⟨x, ρ', a, b, ⟨c.le, c.new, c.rep, c.fr, c.own⟩⟩⟩
  · cases e
theorem l13_run : (callF EA 3000 11 [] ⟨[], 0, gnm 0, [], [], [], true⟩).map (fun x => (x.1, x.2.ob)) = some (.bool true, []) := by kernel_rfl
noncomputable def l13Spec : LSpec := fun la lh => match la, lh with
  | [], [] => some ⟨0, .bool true, [], 0, [], []⟩
  | _, _ => none
theorem l13Spec_ok (la : List AV) (lh : List (Nat × AO)) (R : LR) (h : l13Spec la lh = some R) : LocOk Try.prog 11 la lh R := by
  unfold l13Spec at h
  split at h
  · cases h; exact lives_of_run EA_ok l13_run
  · cases h

noncomputable def ERp : Env := envG Try.prog [(11, rawSP l13Spec), (13, locSP addSpec), (14, locSP alcSpec), (15, orSP (locSP sncSpec) (altT sc11Spec sc10Spec sc01Spec)), (16, locSP sameSpec)]
theorem ERp_ok : EnvOk ERp := envG_ok good ⟨rawSP_ok l13Spec_ok, locSP_ok addSpec_ok, locSP_ok alcSpec_ok, orSP_ok (locSP_ok sncSpec_ok) (altT_ok sc11Spec_ok sc10Spec_ok sc01Spec_ok), locSP_ok sameSpec_ok, trivial⟩
def inE (f : Nat → Nat → AV) (i : Nat) : Ent := entOf (f (0 + i))
end Go.Proofs.Ytmlfmmnnbdlabaa
