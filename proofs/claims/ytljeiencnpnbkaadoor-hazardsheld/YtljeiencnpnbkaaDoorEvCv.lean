/-
  A contract of an array, for a block whose cells are known: the block is seen as an array ahead of the call.
-/
import Derived.Test.YtljeiencnpnbkaaDoorEvLoc2
set_option linter.unusedSimpArgs false
set_option linter.unusedVariables false
namespace Go.Ev
def c0M : CM := ⟨1, 0, []⟩
theorem c0M_ren (ρ : Ren) : c0M.ren ρ = ρ := by
  funext n
  have h : c0M.fresh n = false := by
    unfold CM.fresh
    split
    · rename_i h
      have h := Nat.le_of_ble_eq_true h
      show Nat.blt n 0 = false
      cases n <;> rfl
    · rfl
  unfold CM.ren
  rw [h]
def cvF (sh : List CK) (k : Nat) (cs : List AV) (i j : Nat) : AV := match sh[j]? with
  | some (.int kk) => .sym kk (avInt (listRow k cs i j))
  | some .bool => .symb (avBool (listRow k cs i j))
  | _ => .sym .u64 0
def cvO (k : Nat) (sh : List CK) (o : AO) : AO := match o with
  | .cells n cs => match Nat.beq n k && plainSh sh with
    | true => match castObj c0M (.cells n cs) (.arr n sh false (cs.length / n) (cvF sh n cs)) with
      | some _ => .arr n sh false (cs.length / n) (cvF sh n cs)
      | none => .cells n cs
    | false => .cells n cs
  | o => o
theorem cv_row (sh : List CK) (k : Nat) (cs : List AV) (i : Nat) : ∀ (sh' : List CK) (j0 : Nat), (∀ j, sh[j0 + j]? = sh'[j]?) → plainSh sh' = true → rowOb sh' j0 (listRow k cs i) (cvF sh k cs i)
  | [], _, _, _ => trivial
  | c :: r, j0, h, hp => by
    have h0 := h 0
    simp only [Nat.add_zero, List.getElem?_cons_zero] at h0
    have hr : ∀ j, sh[j0 + 1 + j]? = r[j]? := fun j => by
      have := h (j + 1)
      rw [List.getElem?_cons_succ] at this
      rw [← this]; congr 1; omega
    cases c with
    | int kk => exact ⟨by unfold cvF; rw [h0], cv_row sh k cs i r (j0 + 1) hr hp⟩
    | bool => exact ⟨by unfold cvF; rw [h0], cv_row sh k cs i r (j0 + 1) hr hp⟩
    | val => cases hp
theorem cvO_ok {P : Program} {ρ : Ren} {w : World} {l : Loc} (k : Nat) (sh : List CK) {o : AO} (hr : ObjRep P ρ w l o) : ObjRep P ρ w l (cvO k sh o) ∧ (cvO k sh o).ro = o.ro := by
  unfold cvO
  split
  · rename_i n cs
    split
    · rename_i hb
      simp only [Bool.and_eq_true] at hb
      split
      · rename_i ob e
        have := castObj_ok (ρ := ρ) (w := w) (l := l) (P := P) e ?_ hr
        · rw [c0M_ren] at this; exact this
        · unfold castObj at e
          dsimp only at e
          split at e
          · split at e
            · rw [hb.2] at e
              cases e
              intro p hp
              rcases List.mem_cons.1 hp with e | hp
              · rw [e]
              · rcases List.mem_cons.1 hp with e | hp
                · rw [e]; exact fun i _ => cv_row sh n cs i sh 0 (fun j => by rw [Nat.zero_add]) hb.2
                · cases hp
            · cases e
          · cases e
      · exact ⟨hr, rfl⟩
    · exact ⟨hr, rfl⟩
  · exact ⟨hr, rfl⟩
def cvH (k : Nat) (sh : List CK) : List (Nat × AO) → List (Nat × AO)
  | [] => []
  | (n, o) :: r => (n, cvO k sh o) :: cvH k sh r
theorem cvH_get (k : Nat) (sh : List CK) (n : Nat) : ∀ h, get (cvH k sh h) n = (get h n).map (cvO k sh)
  | [] => rfl
  | (m, o) :: r => by
    simp only [cvH, get]
    split
    · rfl
    · exact cvH_get k sh n r
theorem cvH_get2 {k : Nat} {sh : List CK} {n : Nat} {h : List (Nat × AO)} {o : AO} (e : get (cvH k sh h) n = some o) : ∃ o', get h n = some o' ∧ o = cvO k sh o' := by
  rw [cvH_get] at e
  cases hg : get h n with
  | none => rw [hg] at e; cases e
  | some o' => rw [hg] at e; cases e; exact ⟨o', rfl, rfl⟩
def cvSP (k : Nat) (sh : List CK) (s : SP) : SP := fun args h => s args ⟨cvH k sh h.heap, h.nxt, h.hi, h.hints, h.ob, h.wr, h.auto⟩
theorem cvSP_ok {P : Program} {f : FuncId} {s : SP} (k : Nat) (sh : List CK) (hs : SPOk P f s) : SPOk P f (cvSP k sh s) := by
  intro args h v h' e
  have c := hs _ _ _ _ e
  refine ⟨⟨c.mono.ob, c.mono.nxt, c.mono.hi, c.mono.wr⟩, fun ho ρ w hr hf hg xs hx => ?_⟩
  have ro : ∀ n o', get h.heap n = some o' → (cvO k sh o').ro = o'.ro := fun n o' e => by
    obtain ⟨l, hl, hb⟩ := hr.1 n o' e
    exact (cvO_ok k sh hb).2
  have hr2 : HeapRep P ρ (cvH k sh h.heap) w := by
    refine ⟨fun n o e => ?_, fun n m o o' l l' e1 e2 hne hro hl hl' hc hc' => ?_⟩
    · obtain ⟨o', e', rfl⟩ := cvH_get2 e
      obtain ⟨l, hl, hb⟩ := hr.1 n o' e'
      exact ⟨l, hl, (cvO_ok k sh hb).1⟩
    · obtain ⟨p, a, rfl⟩ := cvH_get2 e1
      obtain ⟨p', a', rfl⟩ := cvH_get2 e2
      rw [ro n p a, ro m p' a'] at hro
      exact hr.2 n m p p' l l' a a' hne hro hl hl' hc hc'
  refine (c.wp ho ρ w hr2 hf hg xs hx).mono fun e w' ⟨x, ρ', a, b, st⟩ => ⟨x, ρ', a, b, ?_⟩
  refine ⟨st.le, st.new, st.rep, ?_, ?_⟩
  · refine ⟨st.fr.1, fun b hb hn => st.fr.2 b hb (fun ⟨m, hm, o, l, q1, q2, q3, q4, q5⟩ => hn ?_), st.fr.3, st.fr.4, st.fr.5⟩
    obtain ⟨o', e', rfl⟩ := cvH_get2 q1
    exact ⟨m, hm, o', l, e', by rw [← ro m o' e']; exact q2, q3, q4, q5⟩
  · intro n o l q1 q2 q3 q4
    obtain ⟨m, o', l', r1, r2, r3, r4, r5, r6⟩ := st.own n o l q1 q2 q3 q4
    obtain ⟨p, e', rfl⟩ := cvH_get2 r1
    exact ⟨m, p, l', e', by rw [← ro m p e']; exact r2, r3, r4, r5, r6⟩
end Go.Ev
