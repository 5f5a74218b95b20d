/-
  EvRun and what follows it.
-/
import Derived.Test.YtljeiencnpnbkaaDoorEvFx
import Derived.Test.YtljeiencnpnbkaaDoorEvLoc2
import Derived.Test.YtljeiencnpnbkaaDoorUFpLaw
/-
  A law's run in two: statements by the evaluator, and then code by any proof.
-/
set_option linter.unusedSimpArgs false
set_option linter.unusedVariables false
namespace Go.Ev
/-- What is to be shown of a law's call, from a heap as the evaluator sees it. -/
def RunsAt (P : Program) (f : Nat) (args : List AV) (heap : List (Nat × AO)) (nxt : Nat) : Prop :=
  ∀ (W : World) (xs : List Value) (ρ : Ren), HeapRep P ρ heap W → denL ρ args = some xs → Fresh ρ nxt (gnm 0) → GOk ρ →
    Calls P f xs.toArray W fun e W' => e = .returned (.bool true) ∧ RowKit.Below W.heap.size W W'
theorem runsAt_of {E : Env} (hE : EnvOk E) {fuel f : Nat} {args : List AV} {heap : List (Nat × AO)} {nxt : Nat} {hints : List Hint} {auto : Bool} {v : AV} {ob : List Prop}
    (hcall : (callF E fuel f args ⟨heap, nxt, gnm 0, hints, [], [], auto⟩).map (fun x => (x.1, x.2.ob, noneIn heap x.2.wr)) = some (v, ob, true)) (hv : isTrue v) (hob : ∀ p ∈ ob, p) : RunsAt E.P f args heap nxt :=
  fun _ _ _ hrep hx hf hg => run_lawG hE hcall hv hob hrep hx hf hg
/-- What a piece of code makes of a state: LoopHolds of any code. -/
def CodeHolds (P : Program) (c : Code) (s : St) (e : Ex) (s' : St) : Prop :=
  ∀ ρ a w Q, Pre P ρ s.tmps s.hp a w → Post P ρ s.hp w e s' Q → c.wp P Q a w
/-- A law's call: statements l are evaluated, what comes behind them is shown otherwise. -/
theorem runsAt_split {E : Env} (hE : EnvOk E) {fuel f : Nat} {fn : Func} {l : List Code} {c : Code} {args : List AV} {heap : List (Nat × AO)} {nxt : Nat} {hints : List Hint} {m : List (Nat × Src)} {s0 s1 : St} {e : Ex} {ob : List Prop} {v : AV}
    (hfn : E.P.funcs[f]? = some fn) (hb : fn.body = some (seqs l c))
    (hcut : roundB E fuel (seqs l .skip) ⟨heap, nxt, gnm 0, [], [], [], false⟩ m ⟨args ++ List.replicate (fn.ntmps - args.length) (.tup []), ⟨heap, nxt, gnm 0, [], [], [], false⟩⟩ hints s0 = some (.norm, ob)) (hob : ∀ p ∈ ob, p)
    (he : e = .norm ∨ e = .ret) (hc : CodeHolds E.P c s0 e s1)
    (hres : resultsA E.P s1.tmps fn.results.toList ⟨[], 0, 0, [], [], [], false⟩ = some ([v], ⟨[], 0, 0, [], [], [], false⟩)) (hv : isTrue v)
    (hwr : noneIn heap s1.hp.wr = true) (hmono : ∀ n ∈ s0.hp.wr, n ∈ s1.hp.wr) (hnx : s1.hp.nxt ≤ gnm 0) : RunsAt E.P f args heap nxt := by
  intro W xs ρ hrep hx hf hg
  obtain ⟨s', hex, hobs, ob', hcs, ho'⟩ := roundB_spec hcut hob
  obtain ⟨om, o⟩ := seqs_ok hE l fuel _ _ hex
  refine calls_of_wp hfn hb ?_
  have hlen := denL_length _ _ hx
  have hrel : RelL ρ (args ++ List.replicate (fn.ntmps - args.length) (.tup [])) (xs.toArray ++ Array.replicate (fn.ntmps - xs.toArray.size) undef).toList := by
    have h1 : (xs.toArray ++ Array.replicate (fn.ntmps - xs.toArray.size) undef).toList = xs ++ List.replicate (fn.ntmps - args.length) undef := by simp [hlen]
    rw [h1]
    refine relL_append (denL.rel hx) ⟨by simp, fun k v hk => ?_⟩
    rw [List.getElem?_replicate] at hk ⊢
    split at hk
    · rename_i hlt; cases hk; rw [if_pos hlt]; exact ⟨undef, rfl, undef_rel ρ⟩
    · cases hk
  refine o hobs ρ _ W c _ ⟨hrel, rfl, hrep, hf, hg⟩ (fun ρ2 a2 w2 hr2 hd2 hs2 => ?_)
  have hn1 : s'.hp.nxt ≤ gnm 0 := castSt_nxt hcs
  have st1 : StepB E.P (gnm 0) ρ ⟨heap, nxt, gnm 0, [], [], [], false⟩ W ρ2 s'.hp w2 := ⟨hs2.le, fun n l h1 h2 => (let q := hs2.new n l h1 h2; ⟨q.1, Nat.lt_of_lt_of_le q.2 hn1⟩), hs2.rep, hs2.fr, hs2.own⟩
  obtain ⟨ρ3, q1, q2, q3, q4, q5, q6, q7, q8, q9, q10⟩ := castSt_okB st1 (Nat.le_refl _) hf hcs ho' hr2
  refine hc ρ3 a2 w2 _ ⟨q1, hd2, q2.rep, q4, hg.mono q2.le⟩ (fun ρ4 a4 w4 hr4 hd4 hs4 => ?_)
  have all := q2.trans hs4 hmono q5 hnx
  obtain ⟨_, hres'⟩ := results_ok (P := E.P) (ρ := ρ4) (w := w4) hr4 fn.results.toList _ _ [v] hres
  obtain ⟨ys, hy1, hy2⟩ := hres' (fun p hp => by cases hp) ⟨fun _ _ q => by simp [get] at q, fun _ _ _ _ _ _ q => by simp [get] at q⟩
  have hrun := results_run hy2
  have fin : Go.Ending.returned (oneOrAllV ys) = Go.Ending.returned (.bool true) ∧ RowKit.Below W.heap.size W w4 := by
    refine ⟨?_, all.fr.below fun b _ ⟨m, hm, o, l, h1, _⟩ => ?_⟩
    · have hr : relS ρ4 (oneOrAll [v]) (oneOrAllV ys) := oneOrAll_den hy1
      have hr : relS ρ4 v (oneOrAllV ys) := hr
      rcases hv with rfl | rfl
      · simp [relS, den] at hr
        simp [← hr]
      · simp [relS, den] at hr
        simp [← hr]
    · rw [noneIn_get _ hwr m hm] at h1; cases h1
  rcases he with rfl | rfl
  · exact ⟨hd4, _, hrun, fin⟩
  · exact ⟨hd4, _, hrun, fin⟩
end Go.Ev

/-
  FreesOnce: the first loop: definitions.
-/
set_option linter.unusedSimpArgs false
set_option linter.unusedVariables false
namespace Go.Proofs.YtljeiencnpnbkaaDoor
open Go.Ev
noncomputable def foStep : Code := fstC (inBlock (fstC (sndC foL)))
noncomputable def foP : Code := fstC foL
noncomputable def foZ : Code := sndC (sndC foL)
noncomputable def foIf : Code := sndC (sndC (inBlock (fstC (sndC foL))))
theorem foL_eq : foL = .seq foP (.seq (.block 1 (.seq foStep (.seq foReg foIf))) foZ) := by kernel_rfl
theorem flGood {m : Nat} {f : Nat → Nat → AV} {n : Nat} {S : MS} {T : Nat → FW} {i : Nat} : FGood foF (flS m f n S T i) := ⟨⟨by kernel_rfl, by kernel_rfl, fun i _ => foMb_ok _⟩, by show 6 ≤ 1000000; omega⟩
theorem flGood2 {m : Nat} {f : Nat → Nat → AV} {n : Nat} {S : MS} {T : Nat → FW} {i : Nat} : FGood foF (flS2 m f n S T i) := ⟨⟨by kernel_rfl, by kernel_rfl, fun i _ => foMb_ok _⟩, by show 6 ≤ 1000000; omega⟩
end Go.Proofs.YtljeiencnpnbkaaDoor

/-
  FreesOnce: a step in the first loop: definitions.
-/
set_option linter.unusedSimpArgs false
set_option linter.unusedVariables false
namespace Go.Proofs.YtljeiencnpnbkaaDoor
open Go.Ev


end Go.Proofs.YtljeiencnpnbkaaDoor
