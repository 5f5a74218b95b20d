/-
  EvHide and what follows it.
-/
import Derived.Test.YtljeiencnpnbkaaDoorEvFam
import Derived.Test.YtljeiencnpnbkaaDoorEvLoc2
import Derived.Test.YtljeiencnpnbkaaDoorUFs
/-
  A function that neither the kernel nor the tools unfold.
-/
set_option linter.unusedSimpArgs false
set_option linter.unusedVariables false
namespace Go.Ev
universe u
noncomputable def hide {α : Sort u} (a : α) : α := Classical.choose (⟨a, rfl⟩ : ∃ x, x = a)
theorem hide_eq {α : Sort u} (a : α) : hide a = a := Classical.choose_spec (⟨a, rfl⟩ : ∃ x, x = a)
/-- One of two contracts, by a hint '.n 0' or '.n 1'. -/
def altN (s t : LSpec) : SP := fun args h => match h.hints with
  | .n c :: r => match c with
    | 0 => applyLoc (nrm s) args { h with hints := r }
    | _ => applyLoc (nrm t) args { h with hints := r }
  | _ => none
theorem altN_ok {P : Program} {f : FuncId} {s t : LSpec} (hs : SpecOk P f s) (ht : SpecOk P f t) : SPOk P f (altN s t) := by
  intro args h v h' e
  unfold altN at e
  split at e
  · rename_i c r hr
    split at e
    · have o := applyLoc_ok (nrm_ok hs) e
      exact ⟨⟨o.mono.ob, o.mono.nxt, o.mono.hi, o.mono.wr⟩, fun ho ρ w hr hf hg xs hx => (o.wp ho ρ w hr hf hg xs hx).mono fun e w' ⟨x, ρ', a, b, c⟩ => ⟨x, ρ', a, b, ⟨c.le, c.new, c.rep, c.fr, c.own⟩⟩⟩
    · have o := applyLoc_ok (nrm_ok ht) e
      exact ⟨⟨o.mono.ob, o.mono.nxt, o.mono.hi, o.mono.wr⟩, fun ho ρ w hr hf hg xs hx => (o.wp ho ρ w hr hf hg xs hx).mono fun e w' ⟨x, ρ', a, b, c⟩ => ⟨x, ρ', a, b, ⟨c.le, c.new, c.rep, c.fr, c.own⟩⟩⟩
  · cases e
end Go.Ev

/-
  Steps of a Pop, of a Push: contracts: definitions.
-/
set_option linter.unusedSimpArgs false
set_option linter.unusedVariables false
namespace Go.Proofs.YtljeiencnpnbkaaDoor
open Go.Ev

noncomputable def popX : MS → PO → PO := hide popO
noncomputable def popY : MS → PO → MS := hide popS
theorem popX_eq (S : MS) (o : PO) : popX S o = popO S o := congrFun (congrFun (hide_eq popO) S) o
theorem popY_eq (S : MS) (o : PO) : popY S o = popS S o := congrFun (congrFun (hide_eq popS) S) o
noncomputable def popH (ln : Int) (h : Int) (nx : Int) (sl : Int) (ok : Bool) (S : MS) (FT : Nat → Nat → AV) : List (Nat × AO) := [(gnm 0, .arr tab.length (tab.map kindOfV) true 1 FT), (1, .cells 5 [.sym .i64 ln, .sym .u64 h, .sym .i64 nx, .sym .i64 sl, .symb ok]), (2, .cells 9 (.map 3 :: lsL S.st S.L)), (3, .map 110 S.M)]
noncomputable def popR (ln : Int) (h : Int) (nx : Int) (sl : Int) (ok : Bool) (S : MS) (FT : Nat → Nat → AV) : LR := ⟨3, .symb (decide ((popX S (PO.mk ln h nx sl ok)).ln = 0)), [(gnm 0, .arr tab.length (tab.map kindOfV) true 1 FT), (1, .cells 5 [.sym .i64 ((popX S (PO.mk ln h nx sl ok))).ln, .sym .u64 ((popX S (PO.mk ln h nx sl ok))).h, .sym .i64 ((popX S (PO.mk ln h nx sl ok))).nx, .sym .i64 ((popX S (PO.mk ln h nx sl ok))).sl, .symb ((popX S (PO.mk ln h nx sl ok))).ok]), (2, .cells 9 (.map 3 :: lsL (popY S (PO.mk ln h nx sl ok)).st (popY S (PO.mk ln h nx sl ok)).L)), (3, .map 110 (popY S (PO.mk ln h nx sl ok)).M)], 0, [1, 2, 3], [FT = tabF tab, U64 S, Ln3 ln, R64 h]⟩

noncomputable def pshX : MS → UO → UO := hide pshO
noncomputable def pshY : MS → UO → MS := hide pshS
theorem pshX_eq (S : MS) (o : UO) : pshX S o = pshO S o := congrFun (congrFun (hide_eq pshO) S) o
theorem pshY_eq (S : MS) (o : UO) : pshY S o = pshS S o := congrFun (congrFun (hide_eq pshS) S) o
noncomputable def pshH (ln : Int) (h : Int) (sl : Int) (S : MS) (FT : Nat → Nat → AV) : List (Nat × AO) := [(gnm 0, .arr tab.length (tab.map kindOfV) true 1 FT), (1, .cells 3 [.sym .i64 ln, .sym .u64 h, .sym .i64 sl]), (2, .cells 9 (.map 3 :: lsL S.st S.L)), (3, .map 110 S.M)]
noncomputable def pshR (ln : Int) (h : Int) (sl : Int) (S : MS) (FT : Nat → Nat → AV) : LR := ⟨3, .symb (decide ((pshX S (UO.mk ln h sl)).ln = 0)), [(gnm 0, .arr tab.length (tab.map kindOfV) true 1 FT), (1, .cells 3 [.sym .i64 ((pshX S (UO.mk ln h sl))).ln, .sym .u64 ((pshX S (UO.mk ln h sl))).h, .sym .i64 ((pshX S (UO.mk ln h sl))).sl]), (2, .cells 9 (.map 3 :: lsL (pshY S (UO.mk ln h sl)).st (pshY S (UO.mk ln h sl)).L)), (3, .map 110 (pshY S (UO.mk ln h sl)).M)], 0, [1, 2, 3], [FT = tabF tab, U64 S, Ln3 ln, R64 h]⟩

end Go.Proofs.YtljeiencnpnbkaaDoor
