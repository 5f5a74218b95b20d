/-
  An operation looks at its operands alone.
-/
import Derived.Test.YtmlfmmnnbdlabaaEvRep
set_option linter.unusedSimpArgs false
set_option linter.unusedVariables false
namespace Go.Ev
theorem evAll_congr {t1 t2 : List AV} : ∀ {l : List Operand}, (∀ x ∈ l, evA t1 x = evA t2 x) → evAll t1 l = evAll t2 l
  | [], _ => rfl
  | x :: r, H => by
    simp only [evAll]
    rw [H x (by simp), evAll_congr (fun y hy => H y (by simp [hy]))]
theorem evParts_congr {t1 t2 : List AV} : ∀ {l : List (Nat × Operand)}, (∀ p ∈ l, evA t1 p.2 = evA t2 p.2) → evParts t1 l = evParts t2 l
  | [], _ => rfl
  | (i, x) :: r, H => by
    simp only [evParts]
    rw [H (i, x) (by simp), evParts_congr (fun y hy => H y (by simp [hy]))]
theorem evOpt_congr {t1 t2 : List AV} {o : Option Operand} (H : ∀ x ∈ o, evA t1 x = evA t2 x) : evOpt t1 o = evOpt t2 o := by
  cases o with
  | none => rfl
  | some x => simp only [evOpt]; rw [H x rfl]
theorem callee_congr {P : Program} {t1 t2 : List AV} {op : Op} (H : ∀ x ∈ op.operands.toList, evA t1 x = evA t2 x) : callee P t1 op = callee P t2 op := by
  cases op with
  | call c =>
    obtain ⟨ca, args, ats⟩ := c
    cases ca with
    | value f =>
      have h1 : evA t1 f = evA t2 f := H f (by simp [Op.operands, Call.operands])
      have h2 : evAll t1 args.toList = evAll t2 args.toList := evAll_congr (fun x hx => H x (by simp [Op.operands, Call.operands]; right; simpa using hx))
      simp only [callee, h1, h2]
    | invoke r name =>
      have h1 : evA t1 r = evA t2 r := H r (by simp [Op.operands, Call.operands])
      have h2 : evAll t1 args.toList = evAll t2 args.toList := evAll_congr (fun x hx => H x (by simp [Op.operands, Call.operands]; right; simpa using hx))
      simp only [callee, h1, h2]
    | _ => rfl
  | _ => rfl
theorem op1_congr {P : Program} {t1 t2 : List AV} {op : Op} {h : Hp} (H : ∀ x ∈ op.operands.toList, evA t1 x = evA t2 x) : op1 P t1 op h = op1 P t2 op h := by
  cases op with
  | build t ps =>
    have h1 : evParts t1 ps.toList = evParts t2 ps.toList := evParts_congr (fun p hp => H p.2 (by simp [Op.operands]; exact ⟨p.1, by simpa using hp⟩))
    simp only [op1, h1]
  | buildSlice t n ps =>
    have h1 : evParts t1 ps.toList = evParts t2 ps.toList := evParts_congr (fun p hp => H p.2 (by simp [Op.operands]; exact ⟨p.1, by simpa using hp⟩))
    simp only [op1, h1]
  | makeFunc fn first captured =>
    have h1 : evAll t1 first.toList = evAll t2 first.toList := evAll_congr (fun x hx => H x (by simp [Op.operands]; left; simpa using hx))
    have h2 : evAll t1 captured.toList = evAll t2 captured.toList := evAll_congr (fun x hx => H x (by simp [Op.operands]; right; simpa using hx))
    simp only [op1, h1, h2]
  | slice t x lo hi mx =>
    have h0 : evA t1 x = evA t2 x := H x (by simp [Op.operands])
    have h1 : evOpt t1 lo = evOpt t2 lo := evOpt_congr (fun y hy => H y (by cases hy; simp [Op.operands]))
    have h2 : evOpt t1 hi = evOpt t2 hi := evOpt_congr (fun y hy => H y (by cases hy; simp [Op.operands]))
    have h3 : evOpt t1 mx = evOpt t2 mx := evOpt_congr (fun y hy => H y (by cases hy; simp [Op.operands]))
    simp only [op1, h0, h1, h2, h3]
  | call c =>
    obtain ⟨ca, args, ats⟩ := c
    cases ca with
    | builtin b =>
      have h2 : evAll t1 args.toList = evAll t2 args.toList := evAll_congr (fun x hx => H x (by simp [Op.operands, Call.operands]; simpa using hx))
      simp only [op1, h2]
    | _ => rfl
  | makeMap t r => cases r <;> rfl
  | _ => (try rfl) <;> (simp [Op.operands] at H; simp only [op1, H])
theorem tops_get : ∀ (l : List AV) (j : Nat), (tops l)[j]? = (l[j]?).map (fun _ => AV.top)
  | [], j => by simp [tops]
  | _ :: r, 0 => by simp [tops]
  | _ :: r, j + 1 => by simp [tops, tops_get r j]
theorem tops_length : ∀ (l : List AV), (tops l).length = l.length
  | [] => rfl
  | _ :: r => by simp [tops, tops_length r]
theorem mask_length (looks : List Nat) (l : List AV) (k0 : Nat) : (mask looks l k0).length = l.length := by
  unfold mask
  induction looks with
  | nil => exact tops_length l
  | cons k r ih =>
    simp only [maskOn]
    split
    · split
      · rw [setNth_eq, List.length_set]; exact ih
      · exact ih
    · exact ih
theorem mask_get (looks : List Nat) (l : List AV) (k0 j : Nat) : (mask looks l k0)[j]? = (l[j]?).map (fun v => if mem (k0 + j) looks = true then v else .top) := by
  have hlen := fun r => mask_length r l k0
  unfold mask at hlen ⊢
  induction looks with
  | nil => simp [maskOn, tops_get, mem]
  | cons k r ih =>
    have hm : mem (k0 + j) (k :: r) = if k = k0 + j then true else mem (k0 + j) r := by
      simp only [mem]
      by_cases e : k = k0 + j
      · subst e; simp
      · have : Nat.beq k (k0 + j) = false := by rw [← Bool.not_eq_true, Nat.beq_eq]; exact e
        simp [this, e]
    rw [hm]
    simp only [maskOn]
    split
    · rename_i hb
      have hb : k0 ≤ k := Nat.le_of_ble_eq_true hb
      split
      · rename_i v hv
        rw [nth_eq] at hv
        rw [setNth_eq, List.getElem?_set, ih]
        by_cases e : k - k0 = j
        · have e2 : k = k0 + j := by omega
          have hjl : j < l.length := by rw [← e]; exact (List.getElem?_eq_some_iff.1 hv).1
          have hl2 : j < (maskOn l k0 r).length := by rw [hlen r]; exact hjl
          rw [if_pos e, if_pos (by omega), if_pos e2, ← e, hv]
          simp
        · have e2 : k ≠ k0 + j := by omega
          rw [if_neg e, if_neg e2]
      · rename_i hv
        rw [nth_eq] at hv
        rw [ih]
        by_cases e2 : k = k0 + j
        · have : k - k0 = j := by omega
          rw [this] at hv
          rw [hv]; rfl
        · rw [if_neg e2]
    · rename_i hb
      have hb : ¬ k0 ≤ k := fun e => by rw [Nat.ble_eq_true_of_le e] at hb; cases hb
      rw [ih, if_neg (by omega)]


theorem evA_mask (all : List Oper) (o : Oper) (tmps : List AV) (x : Operand) (hx : x ∈ o.op.operands.toList) : evA (mask (looksAt all o) tmps 0) x = evA tmps x := by
  cases x with
  | tmp t =>
    simp only [evA, nth_eq]
    rw [mask_get, Nat.zero_add]
    have hm : mem t (looksAt all o) = true := by
      rw [mem_iff]
      unfold looksAt
      refine List.mem_append_left _ (List.mem_filterMap.2 ⟨.tmp t, hx, rfl⟩)
    simp [hm]
  | _ => rfl
theorem wantedA_mask (all : List Oper) (o : Oper) (tmps : List AV) : wantedA all (mask (looksAt all o) tmps 0) o = wantedA all tmps o := by
  unfold wantedA
  split
  · rfl
  · rename_i j want hg
    split
    · rfl
    · rename_i d hd
      have hm : mem d (looksAt all o) = true := by
        rw [mem_iff]
        unfold looksAt
        refine List.mem_append_right _ ?_
        rw [hg]; simp [hd]
      have e : nth (mask (looksAt all o) tmps 0) d = nth tmps d := by
        rw [nth_eq, nth_eq, mask_get, Nat.zero_add]; simp [hm]
      rw [e]
theorem oper_mask (all : List Oper) (o : Oper) (tmps : List AV) {E : Env} {n : Nat} {h : Hp} : oper E n (mask (looksAt all o) tmps 0) o.op h = oper E n tmps o.op h := by
  have H := evA_mask all o tmps
  cases n with
  | zero => simp only [oper]
  | succ n =>
    simp only [oper]
    rw [callee_congr H, op1_congr H]
end Go.Ev
