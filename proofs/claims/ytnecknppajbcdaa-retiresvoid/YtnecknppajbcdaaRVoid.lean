/-
  For every entry and every slice of bools, RetiresVoid returns true; its arguments read as before. No condition.
-/
import Derived.Test.YtnecknppajbcdaaEvJoin
import Derived.Test.YtnecknppajbcdaaRows
set_option linter.unusedSimpArgs false
set_option linter.unusedVariables false
namespace Go.Proofs.Ytnecknppajbcdaa
open Go.Ev Go.ChangeShapes Go.WideShapes Go.ChangeAt Go.RowKit

theorem own : ownKnob Try.prog.godebug = none := by kernel_rfl
theorem laidOut : laidOutB Try.prog = true := by kernel_rfl

theorem good : Ev.Good Try.prog where
  mixed := by kernel_rfl
  names := fun f fn h1 h2 => by
    have key : Try.prog.funcs.toList.all (fun fn => !fn.body.isSome || !(fn.name == "runtime.NumGoroutine")) = true := by kernel_rfl
    have hm : fn ∈ Try.prog.funcs.toList := by
      have := (Array.getElem?_eq_some_iff.1 h1)
      obtain ⟨hlt, rfl⟩ := this
      simp
    have := List.all_eq_true.1 key fn hm
    simpa [h2] using this

noncomputable def E0 : Env := ⟨Try.prog, fun _ => none⟩
theorem E0_ok : EnvOk E0 := ⟨good, fun f g h => by cases h⟩

noncomputable def E1 : Env := ⟨Try.prog, fun f => match Nat.beq f 11 with
  | true => some (fun args h => match args with
    | [] => some (.bool true, h)
    | _ => none)
  | false => none⟩

theorem lives_run : (callF E0 3000 11 [] ⟨[], 0, gnm 0, [], [], [], true⟩).map (fun x => (x.1, x.2.ob)) = some (.bool true, []) := by kernel_rfl

theorem lives_ok (h : Hp) : CaOk Try.prog 11 [] h (.bool true) h := by
  cases hc : callF E0 3000 11 [] ⟨[], 0, gnm 0, [], [], [], true⟩ with
  | none => have := lives_run; rw [hc] at this; cases this
  | some y =>
    have := lives_run
    rw [hc] at this
    simp only [Option.map_some, Option.some.injEq, Prod.mk.injEq] at this
    obtain ⟨v, h1⟩ := y
    obtain ⟨rfl, h2⟩ := this
    exact closed_ok E0_ok hc h2 rfl h

theorem E1_ok : EnvOk E1 := ⟨good, fun f g h args hp v h' e => by
  simp only [E1] at h
  split at h
  · rename_i hf
    have hf := Nat.eq_of_beq_eq_true hf
    cases h
    dsimp only at e
    split at e
    · cases e; subst hf; exact lives_ok hp
    · cases e
  · cases h⟩

theorem k33 : flatK Try.prog 4 33 = some [.int .i64, .int .u32, .bool, .int .u64, .int .u64, .int .u64] := by kernel_rfl
theorem k4 : flatK Try.prog 4 4 = some [.bool] := by kernel_rfl

noncomputable def ent (e0 e1 : Int) (e2 : Bool) (e3 e4 e5 : Int) : AV := .agg [.sym .i64 e0, .sym .u32 e1, .symb e2, .sym .u64 e3, .sym .u64 e4, .sym .u64 e5]
noncomputable def hp0 (len : Nat) (num : Nat → Nat → Int) (bit : Nat → Nat → Bool) : List (Nat × AO) := [(1, .arr 1 [.bool] true len (rowAV [.bool] num bit))]

section
variable (e0 e1 : Int) (e2 : Bool) (e3 e4 e5 : Int) (len : Nat) (num : Nat → Nat → Int) (bit : Nat → Nat → Bool)
noncomputable def run (h : List Hint) : Option (AV × List Prop × Bool) :=
  (callF E1 3000 5 [ent e0 e1 e2 e3 e4 e5, .ss 1 1 0 len none] ⟨hp0 len num bit, 2, gnm 0, h, [], [], false⟩).map (fun x => (x.1, x.2.ob, noneIn (hp0 len num bit) x.2.wr))
def eqR : Bool := and2 (e0 == e0) (and2 (e1 == e1) (and2 (e2 == false) true)) == true


theorem r0 : run e0 e1 e2 e3 e4 e5 len num bit [.b true] = some (.bool true, [decide (Int.ofNat len > 100) = true], true) := by kernel_rfl
theorem r1 : run e0 e1 e2 e3 e4 e5 len num bit [.b false, .node [], .node [(13, [.b true, .b true, .b false]), (15, [.b true, .b true, .b false])], .node [(3, [.b false])]] =
  some (.bool true, [(and2 (and2 (e0 == e0) (and2 (e1 == e1) (and2 (e2 == e2) true))) (and2 (e3 == e3) (and2 (e4 == e4) (and2 (e5 == e5) true))) == false) = false,
    (!!e2) = false, decide (e0 ≤ 255) = true, decide (e0 ≥ 0) = true, (!decide (e0 < 256)) = false, decide (e0 ≥ 0) = true, eqR e0 e1 e2 = true, decide (Int.ofNat len > 100) = false], true) := by kernel_rfl
theorem r2 : run e0 e1 e2 e3 e4 e5 len num bit [.b false, .node [], .node [(13, [.b true, .b false]), (15, [.b false])]] =
  some (.bool true, [decide (e0 ≥ 0) = false, decide (e0 ≥ 0) = false, eqR e0 e1 e2 = true, decide (Int.ofNat len > 100) = false], true) := by kernel_rfl
theorem r3 : run e0 e1 e2 e3 e4 e5 len num bit [.b false, .node [], .node [(13, [.b true, .b true, .b true]), (15, [.b true, .b false])]] =
  some (.bool true, [decide (e0 ≤ 255) = false, decide (e0 ≥ 0) = true, (!decide (e0 < 256)) = true, decide (e0 ≥ 0) = true, eqR e0 e1 e2 = true, decide (Int.ofNat len > 100) = false], true) := by kernel_rfl
theorem r4 : run e0 e1 e2 e3 e4 e5 len num bit [.b false, .node [], .node [(13, [.b false]), (15, [.b false])]] =
  some (.bool true, [decide (e0 ≥ 0) = false, eqR e0 e1 e2 = false, decide (Int.ofNat len > 100) = false], true) := by kernel_rfl
theorem r5 : run e0 e1 e2 e3 e4 e5 len num bit [.b false, .node [], .node [(13, [.b false]), (15, [.b true, .b false])]] =
  some (.bool true, [decide (e0 ≤ 255) = false, decide (e0 ≥ 0) = true, eqR e0 e1 e2 = false, decide (Int.ofNat len > 100) = false], true) := by kernel_rfl
theorem r6 : run e0 e1 e2 e3 e4 e5 len num bit [.b false, .node [], .node [(13, [.b false]), (15, [.b true, .b true, .b true])]] =
  some (.bool true, [(!!e2) = true, decide (e0 ≤ 255) = true, decide (e0 ≥ 0) = true, eqR e0 e1 e2 = false, decide (Int.ofNat len > 100) = false], true) := by kernel_rfl

theorem eqR_eq : eqR e0 e1 e2 = !e2 := by cases e2 <;> simp [eqR, and2]


theorem ob_nil : ∀ p ∈ ([] : List Prop), p := fun p h => by cases h
theorem ob_cons {q : Prop} {l : List Prop} (hq : q) (hl : ∀ p ∈ l, p) : ∀ p ∈ q :: l, p := fun p h => by
  rcases List.mem_cons.1 h with rfl | h
  · exact hq
  · exact hl p h

theorem gt_true (h : len > 100) : decide (Int.ofNat len > 100) = true := decide_eq_true (by simp; omega)
theorem gt_false (h : ¬ len > 100) : decide (Int.ofNat len > 100) = false := decide_eq_false (by simp; omega)

theorem runs : ∃ h, ∃ ob : List Prop, run e0 e1 e2 e3 e4 e5 len num bit h = some (.bool true, ob, true) ∧ ∀ p ∈ ob, p := by
  by_cases hl : len > 100
  · exact ⟨_, _, r0 .., ob_cons (gt_true len hl) ob_nil⟩
  have hl := gt_false len hl
  have eq := eqR_eq e0 e1 e2
  by_cases h0 : 0 ≤ e0
  · have h0' : decide (e0 ≥ 0) = true := decide_eq_true h0
    by_cases h1 : e0 ≤ 255
    · have h1' : decide (e0 ≤ 255) = true := decide_eq_true h1
      have h2 : (!decide (e0 < 256)) = false := by simp; omega
      cases e2
      · exact ⟨_, _, r1 .., ob_cons (by simp [and2]) (ob_cons rfl (ob_cons h1' (ob_cons h0' (ob_cons h2 (ob_cons h0' (ob_cons eq (ob_cons hl ob_nil)))))))⟩
      · exact ⟨_, _, r6 .., ob_cons rfl (ob_cons h1' (ob_cons h0' (ob_cons eq (ob_cons hl ob_nil))))⟩
    · have h1' : decide (e0 ≤ 255) = false := decide_eq_false h1
      have h2 : (!decide (e0 < 256)) = true := by simp; omega
      cases e2
      · exact ⟨_, _, r3 .., ob_cons h1' (ob_cons h0' (ob_cons h2 (ob_cons h0' (ob_cons eq (ob_cons hl ob_nil)))))⟩
      · exact ⟨_, _, r5 .., ob_cons h1' (ob_cons h0' (ob_cons eq (ob_cons hl ob_nil)))⟩
  · have h0' : decide (e0 ≥ 0) = false := decide_eq_false h0
    cases e2
    · exact ⟨_, _, r2 .., ob_cons h0' (ob_cons h0' (ob_cons eq (ob_cons hl ob_nil)))⟩
    · exact ⟨_, _, r4 .., ob_cons h0' (ob_cons eq (ob_cons hl ob_nil))⟩
end

theorem retiresVoid_runs : LawRuns Try.prog 5 [33, 40] := by
  intro H enc W base args ds p hval hA
  obtain ⟨v0, v1, d0, d1, p0, p1, hargs, rfl, rfl, h0, h1⟩ := trodAll_two (args := args.toArray) hA
  obtain rfl : args = [v0, v1] := by simpa using congrArg Array.toList hargs
  obtain ⟨e0, _, e1, _, e2, e3, _, e4, _, e5, _, rfl⟩ := open_flat Try.underlying33 k33 (hval 0 33 v0 rfl rfl) h0
  obtain ⟨fuel, h1⟩ := h1
  obtain ⟨a, l, c, rfl⟩ := okWide_slice Try.underlying40 (hval 1 40 v1 rfl rfl)
  obtain ⟨L, len, num, bit, hw, hs, hl, hm, hn, hob, hwf⟩ := open_rows Try.underlying40 k4 (by kernel_rfl) (by decide) (okWide_spot Try.underlying40 (hval 1 40 _ rfl rfl)) (by simpa [Value.cells] using h1)
  obtain ⟨h, ob, hr, ho⟩ := runs e0 e1 e2 e3 e4 e5 len num bit
  have := run_law' (W := W) (ls := [(1, L)]) E1_ok hr (.inl rfl) ho (heapRep_one hob) (xs := [.agg #[.int .i64 e0, .int .u32 e1, .bool e2, .int .u64 e3, .int .u64 e4, .int .u64 e5], .slice a l c])
    (by
      simp only [ent, denL, den, inp_one]
      have hs : L.slice 1 0 len none = some (.slice a l c) := hs
      simp [hs]) rfl (by decide) (Nat.le_refl _)
  exact this

set_option maxRecDepth 100000 in
theorem retiresVoid_lifted (os : Os) (started : os.Started) (H : Type) (enc : TypeId × Value → H) :
    ReturnsInHanded {} Try.checked os 5 .any (Rows.retiresVoidSpec.pre6 enc Try.prog Try.f5 Rows.retiresVoidRow.domain false) (Rows.retiresVoidSpec.post enc Try.prog Try.f5 false true false false) := by
  refine returnsInHanded_of_change (C := Try.checked) own started (by kernel_rfl) Try.func5
    (ChangeSpec.witness6 (enc := enc) (C := Try.checked) false ⟨#[], #[.agg #[.int .i64 0, .int .u32 0, .bool false, .int .u64 0, .int .u64 0, .int .u64 0], .slice none 0 0], []⟩ 8 (by kernel_rfl) (by kernel_rfl) (by kernel_rfl) (by kernel_rfl)) ?_
  intro W base args ds gs before hval0 hW hcnd _
  exact law_contract Try.params5 retiresVoid_runs laidOut (of_decide_eq_true (by kernel_rfl)) (by kernel_rfl) Try.underlying4 rfl
    (fun ds hl => by match ds, hl with | [d0, d1], _ => exact ⟨rfl, rfl, rfl⟩) W base args ds gs before hval0 hW

theorem retiresVoid_holds : Rows.RetiresVoidSaid :=
  OpenClaim.holds_of_wide 5 Try.f5 rfl rfl rfl rfl rfl rfl rfl ⟨rfl, rfl, rfl, rfl, rfl⟩ rfl rfl rfl rfl rfl (by kernel_rfl) Try.func5 (by kernel_rfl)
    (of_decide_eq_true (by kernel_rfl)) (by unfold Func.isWrapper; first | (rw [if_pos (by decide +kernel)]; kernel_rfl) | (rw [if_neg (by decide +kernel)]; exact ⟨rfl, rfl⟩))
    (fun os started H enc _ => retiresVoid_lifted os started H enc)

#print axioms retiresVoid_holds
end Go.Proofs.Ytnecknppajbcdaa
