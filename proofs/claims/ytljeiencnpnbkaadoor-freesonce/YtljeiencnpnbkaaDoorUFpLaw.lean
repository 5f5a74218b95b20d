/-
  FreesOnce: the walk's threads are the law's.
-/
import Derived.Test.YtljeiencnpnbkaaDoorUFok
set_option linter.unusedSimpArgs false
set_option linter.unusedVariables false
namespace Go.Proofs.YtljeiencnpnbkaaDoor
open Go.Ev
/-! ### FreesOnce: the walk's threads are the law's -/
structure RW (B : Nat) (w : FW) (a : PT) : Prop where
  t : w.t = a.t
  t2 : a.t ≤ 2
  len : w.len = a.H.length
  b : w.len ≤ B
  e : ∀ k (h : k < a.H.length), w.E (w.of + k) = a.H[k]
  p : a.t = 1 → w.p = a.p
  u : a.t = 2 → w.u = a.u
def updW (T : Nat → FW) (k : Nat) (a : FW) : Nat → FW := fun q => if q = k then a else T q
theorem updW_eq (T : Nat → FW) (k : Nat) (a : FW) : updW T k a k = a := if_pos rfl
theorem updW_ne {T : Nat → FW} {k i : Nat} (a : FW) (h : i ≠ k) : updW T k a i = T i := if_neg h
theorem updW_upd (T : Nat → FW) (k : Nat) (a b : FW) : updW (updW T k a) k b = updW T k b := by
  funext q; unfold updW; by_cases c : q = k
  · rw [if_pos c, if_pos c]
  · rw [if_neg c, if_neg c, if_neg c]
def WI (n : Nat) (S : MS) (T : Nat → FW) (B : Nat) : Prop := ∃ Tp l τ, FI n S Tp l τ ∧ τ ≤ n + B ∧ ∀ k, k < 6 → RW B (T k) (Tp k)
theorem RW.mono {B B' : Nat} {w : FW} {a : PT} (h : RW B w a) (hB : B ≤ B') : RW B' w a := ⟨h.t, h.t2, h.len, Nat.le_trans h.b hB, h.e, h.p, h.u⟩
def wMu (S : MS) (w : FW) : Nat := if w.t = 1 then pMu S w.p else if w.t = 2 then uMu S w.u else 0
theorem wMu_le (S : MS) (w : FW) : wMu S w ≤ 5 := by
  unfold wMu
  split
  · exact pMu_le _ _
  · split
    · exact uMu_le _ _
    · omega
def apE (E : Nat → Int) (of len : Nat) (s : Int) : Nat → Int := fun k => if k < len then E (of + k) else s
theorem rw_upd {B : Nat} {T : Nat → FW} {Tp : Nat → PT} {j : Nat} {w : FW} {a : PT} (h : ∀ k, k < 6 → RW B (T k) (Tp k)) (hw : RW (B + 1) w a) : ∀ k, k < 6 → RW (B + 1) (updW T j w k) (updP Tp j a k) := fun k hk => by
  unfold updW updP
  by_cases c : k = j
  · rw [if_pos c, if_pos c]; exact hw
  · rw [if_neg c, if_neg c]; exact (h k hk).mono (by omega)
theorem rw_same {B : Nat} {T : Nat → FW} {Tp : Nat → PT} {j : Nat} {w : FW} {a : PT} (h : ∀ k, k < 6 → RW B (T k) (Tp k)) (hw : RW B w a) : ∀ k, k < 6 → RW B (updW T j w k) (updP Tp j a k) := fun k hk => by
  unfold updW updP
  by_cases c : k = j
  · rw [if_pos c, if_pos c]; exact hw
  · rw [if_neg c, if_neg c]; exact h k hk
theorem PoOk_of {S : MS} {l : List Int} {τ : Int} {a : PT} (h : TF S l τ a) (ht : a.t = 1) : PoOk a.p := by
  rcases h with q | ⟨_, q1, _, q3⟩ | ⟨q, _⟩
  · rw [ht] at q; exact absurd q (by decide)
  · refine ⟨?_, q1⟩
    rcases q3 with z | ⟨z, _⟩ | ⟨z, _⟩
    · exact .inr (.inl z)
    · exact .inr (.inr (.inl z))
    · exact .inr (.inr (.inr z))
  · rw [ht] at q; exact absurd q (by decide)
theorem UoOk_of {S : MS} {l : List Int} {τ : Int} {a : PT} (h : TF S l τ a) (ht : a.t = 2) : UoOk a.u := by
  rcases h with q | ⟨q, _⟩ | ⟨_, q1, q2⟩
  · rw [ht] at q; exact absurd q (by decide)
  · rw [ht] at q; exact absurd q (by decide)
  · refine ⟨?_, q1⟩
    rcases q2 with z | z | ⟨z, _⟩
    · exact .inr (.inl z)
    · exact .inr (.inr (.inl z))
    · exact .inr (.inr (.inr z))
section
variable {n : Nat} {S : MS} {T : Nat → FW} {B j t of len : Nat} {E : Nat → Int} {p : PO} {u : UO} (h : WI n S T B) (hj : j < 6) (hT : T j = ⟨t, of, len, E, p, u⟩)
include h
theorem WI.u64 : U64 S := let ⟨_, _, _, q, _⟩ := h; q.sk.u
theorem WI.mono {B' : Nat} (hB : B ≤ B') : WI n S T B' := let ⟨Tp, l, τ, q1, q2, q3⟩ := h; ⟨Tp, l, τ, q1, by omega, fun k hk => (q3 k hk).mono hB⟩
include hj
theorem WI.t2 : (T j).t ≤ 2 := let ⟨Tp, l, τ, q1, q2, q3⟩ := h; by rw [(q3 j hj).t]; exact (q3 j hj).t2
theorem WI.lenB : (T j).len ≤ B := let ⟨Tp, l, τ, q1, q2, q3⟩ := h; (q3 j hj).b
include hT
theorem WI.po (ht : t = 1) : PoOk p := by
  obtain ⟨Tp, l, τ, q1, q2, q3⟩ := h
  have q := q3 j hj
  rw [hT] at q
  have e1 : (Tp j).t = 1 := by rw [← q.t]; exact ht
  have := PoOk_of (q1.a j hj) e1
  rw [← q.p e1] at this
  exact this
theorem WI.uo (ht : t = 2) : UoOk u := by
  obtain ⟨Tp, l, τ, q1, q2, q3⟩ := h
  have q := q3 j hj
  rw [hT] at q
  have e1 : (Tp j).t = 2 := by rw [← q.t]; exact ht
  have := UoOk_of (q1.a j hj) e1
  rw [← q.u e1] at this
  exact this
/-- A Pop's step. -/
theorem WI.pop (ht : t = 1) (hB : B ≤ 100000) :
    ((popX S p).ln ≠ 0 → WI n (popY S p) (updW T j ⟨1, of, len, E, popX S p, u⟩) (B + 1) ∧ pMu (popY S p) (popX S p) < pMu S p) ∧
    ((popX S p).ln = 0 → (popX S p).ok = true → ∀ p' u', WI n (popY S p) (updW T j ⟨0, 0, len + 1, apE E of len (popX S p).sl, p', u'⟩) (B + 1)) ∧
    ((popX S p).ln = 0 → (popX S p).ok = false → ∀ p' u', WI n (popY S p) (updW T j ⟨0, of, len, E, p', u'⟩) (B + 1)) ∧ 0 < pMu S p := by
  obtain ⟨Tp, l, τ, q1, q2, q3⟩ := h
  have nn := q1.nn
  have q := q3 j hj
  rw [hT] at q
  have e1 : (Tp j).t = 1 := by rw [← q.t]; exact ht
  have ep : p = (Tp j).p := q.p e1
  obtain ⟨l', τ', r1, r2, r3⟩ := pop_step q1 hj e1 (by omega)
  rw [popX_eq, popY_eq, ep]
  refine ⟨fun hl => ⟨⟨_, l', τ', r1, by omega, ?_⟩, r3⟩, fun hl ho p' u' => ⟨_, l', τ', r1, by omega, ?_⟩, fun hl ho p' u' => ⟨_, l', τ', r1, by omega, ?_⟩, by omega⟩
  · rw [popF_go hl]
    exact rw_upd q3 ⟨rfl, by show 1 ≤ 2; decide, q.len, by have := q.b; simp only at this ⊢; omega, q.e, fun _ => rfl, fun h => by cases h⟩
  · rw [show popF (Tp j) (popO S (Tp j).p) = ⟨0, (Tp j).H ++ [(popO S (Tp j).p).sl], popO S (Tp j).p, (Tp j).u⟩ by unfold popF; rw [if_pos hl, if_pos ho]]
    have hlen : len = (Tp j).H.length := q.len
    refine rw_upd q3 ⟨rfl, Nat.zero_le _, by show len + 1 = _; rw [List.length_append, hlen]; rfl, by have := q.b; simp only at this ⊢; omega, fun k hk => ?_, (fun h => by cases h), (fun h => by cases h)⟩
    show (if 0 + k < len then E (of + (0 + k)) else _) = _
    rw [Nat.zero_add]
    simp only [List.length_append, List.length_singleton] at hk
    by_cases c : k < len
    · rw [if_pos c, List.getElem_append_left (by omega)]; exact q.e k (by omega)
    · rw [if_neg c, List.getElem_append_right (by omega)]; simp
  · rw [show popF (Tp j) (popO S (Tp j).p) = ⟨0, (Tp j).H, popO S (Tp j).p, (Tp j).u⟩ by unfold popF; rw [if_pos hl, if_neg (by rw [ho]; decide)]]
    exact rw_upd q3 ⟨rfl, Nat.zero_le _, q.len, by have := q.b; simp only at this ⊢; omega, q.e, (fun h => by cases h), (fun h => by cases h)⟩
/-- A Push's step. -/
theorem WI.push (ht : t = 2) (hB : B ≤ 100000) :
    ((pshX S u).ln ≠ 0 → WI n (pshY S u) (updW T j ⟨2, of, len, E, p, pshX S u⟩) (B + 1) ∧ uMu (pshY S u) (pshX S u) < uMu S u) ∧
    ((pshX S u).ln = 0 → ∀ p' u', WI n (pshY S u) (updW T j ⟨0, of, len, E, p', u'⟩) (B + 1)) ∧ 0 < uMu S u := by
  obtain ⟨Tp, l, τ, q1, q2, q3⟩ := h
  have nn := q1.nn
  have q := q3 j hj
  rw [hT] at q
  have e1 : (Tp j).t = 2 := by rw [← q.t]; exact ht
  have ep : u = (Tp j).u := q.u e1
  obtain ⟨l', τ', r1, r2, r3⟩ := push_step q1 hj e1 (by omega)
  rw [pshX_eq, pshY_eq, ep]
  refine ⟨fun hl => ⟨⟨_, l', τ', r1, by omega, ?_⟩, r3⟩, fun hl p' u' => ⟨_, l', τ', r1, by omega, ?_⟩, by omega⟩
  · rw [pshF_go hl]
    exact rw_upd q3 ⟨rfl, Nat.le_refl 2, q.len, by have := q.b; simp only at this ⊢; omega, q.e, (fun h => by cases h), fun _ => rfl⟩
  · rw [show pshF (Tp j) (pshO S (Tp j).u) = ⟨0, (Tp j).H, (Tp j).p, pshO S (Tp j).u⟩ by unfold pshF; rw [if_pos hl]]
    exact rw_upd q3 ⟨rfl, Nat.zero_le _, q.len, by have := q.b; simp only at this ⊢; omega, q.e, (fun h => by cases h), (fun h => by cases h)⟩
theorem WI.bpop (ht : t = 0) : WI n S (updW T j ⟨1, of, len, E, po0, u⟩) B := by
  obtain ⟨Tp, l, τ, q1, q2, q3⟩ := h
  have q := q3 j hj
  rw [hT] at q
  have e1 : (Tp j).t = 0 := by rw [← q.t]; exact ht
  exact ⟨_, l, τ, begin_pop q1 hj e1, q2, rw_same q3 ⟨rfl, by show 1 ≤ 2; decide, q.len, q.b, q.e, fun _ => rfl, fun h => by cases h⟩⟩
theorem WI.bpush (ht : t = 0) (hl : 0 < len) {of' : Nat} {E' : Nat → Int} (hE' : ∀ k, E' (of' + k) = E (of + 1 + k)) : WI n S (updW T j ⟨2, of', len - 1, E', p, ⟨1, 0, E of⟩⟩) B ∧ 0 ≤ E of ∧ E of < 256 := by
  obtain ⟨Tp, l, τ, q1, q2, q3⟩ := h
  have q := q3 j hj
  rw [hT] at q
  have e1 : (Tp j).t = 0 := by rw [← q.t]; exact ht
  have hlen : len = (Tp j).H.length := q.len
  cases eH : (Tp j).H with
  | nil => rw [eH] at hlen; simp at hlen; omega
  | cons s r =>
    have es : E of = s := by
      have := q.e 0 (by omega)
      simp only [Nat.add_zero] at this
      rw [this]; simp [eH]
    have hr := q1.apart (i := j) (j := 0) hj (by omega)
    have hs : (Tp j).H[0]'(by omega) = s := by simp [eH]
    rw [hs] at hr
    have nn := q1.nn
    refine ⟨⟨_, l, τ, begin_push q1 hj e1 eH, q2, rw_same q3 ⟨rfl, Nat.le_refl 2, ?_, ?_, fun k hk => ?_, (fun h => by cases h), fun _ => by rw [es]⟩⟩, by omega, by omega⟩
    · show len - 1 = r.length
      rw [hlen, eH]; simp
    · have := q.b; simp only at this ⊢; omega
    · show E' (of' + k) = r[k]
      rw [hE']
      have := q.e (k + 1) (by rw [eH]; simpa using hk)
      simp only at this
      rw [show of + 1 + k = of + (k + 1) by omega, this]
      simp [eH]
end
/-! ### what 'apart' asks -/
theorem seenB_iff {E : Nat → Int} {of : Nat} {B : Nat → Bool} {q : Nat} : ∀ k, seenB E of B k q = true ↔ B q = true ∨ ∃ i, i < k ∧ q = (E (of + i)).toNat
  | 0 => by
    refine ⟨fun h => .inl h, fun h => ?_⟩
    rcases h with h | ⟨i, h, _⟩
    · exact h
    · omega
  | k + 1 => by
    show (if q = (E (of + k)).toNat then true else seenB E of B k q) = true ↔ _
    by_cases c : q = (E (of + k)).toNat
    · rw [if_pos c]; exact ⟨fun _ => .inr ⟨k, by omega, c⟩, fun _ => rfl⟩
    · rw [if_neg c, seenB_iff k]
      refine ⟨fun h => ?_, fun h => ?_⟩
      · rcases h with h | ⟨i, h1, h2⟩
        · exact .inl h
        · exact .inr ⟨i, by omega, h2⟩
      · rcases h with h | ⟨i, h1, h2⟩
        · exact .inl h
        · exact .inr ⟨i, by have : i ≠ k := fun e => c (by rw [← e]; exact h2); omega, h2⟩
theorem seenT_iff {T : Nat → FW} {q : Nat} : ∀ a, seenT T a q = true ↔ ∃ b i, b < a ∧ i < (T b).len ∧ q = ((T b).E ((T b).of + i)).toNat
  | 0 => by
    refine ⟨fun h => ?_, fun h => ?_⟩
    · cases h
    · obtain ⟨b, i, h, _⟩ := h
      omega
  | a + 1 => by
    show seenB (T a).E (T a).of (seenT T a) (T a).len q = true ↔ _
    rw [seenB_iff, seenT_iff a]
    refine ⟨fun h => ?_, fun h => ?_⟩
    · rcases h with ⟨b, i, h1, h2, h3⟩ | ⟨i, h1, h2⟩
      · exact ⟨b, i, by omega, h2, h3⟩
      · exact ⟨a, i, by omega, h1, h2⟩
    · obtain ⟨b, i, h1, h2, h3⟩ := h
      by_cases c : b = a
      · subst c; exact .inr ⟨i, h2, h3⟩
      · exact .inl ⟨b, i, by omega, h2, h3⟩
theorem helds_mem {Tp : Nat → PT} {x : Int} : ∀ a b, b < a → x ∈ (Tp b).H → x ∈ helds Tp a
  | 0, b, h, _ => by omega
  | a + 1, b, h, hx => by
    show x ∈ helds Tp a ++ (Tp a).H
    rw [List.mem_append]
    by_cases c : b = a
    · subst c; exact .inr hx
    · exact .inl (helds_mem a b (by omega) hx)
theorem WI.apart {n : Nat} {S : MS} {T : Nat → FW} {B : Nat} (h : WI n S T B) (hB : B ≤ 1000) :
    ∀ a, a < 6 → (T a).t ≤ 2 ∧ (T a).len ≤ 1000 ∧ ∀ k, k < (T a).len → 0 ≤ (T a).E ((T a).of + k) ∧ (T a).E ((T a).of + k) < n ∧ seenB (T a).E (T a).of (seenT T a) k ((T a).E ((T a).of + k)).toNat = false := by
  intro a ha
  refine ⟨h.t2 ha, Nat.le_trans (h.lenB ha) hB, fun k hk => ?_⟩
  obtain ⟨Tp, l, τ, q1, q2, q3⟩ := h
  have q := q3 a ha
  have hk' : k < (Tp a).H.length := by rw [← q.len]; exact hk
  obtain ⟨r1, r2, r3⟩ := q1.apart ha hk'
  rw [q.e k hk']
  refine ⟨r1, r2, ?_⟩
  cases hs : seenB (T a).E (T a).of (seenT T a) k ((Tp a).H[k]).toNat with
  | false => rfl
  | true =>
    exfalso
    apply r3
    rw [List.mem_append]
    rcases (seenB_iff k).1 hs with hs | ⟨i, h1, h2⟩
    · obtain ⟨b, i, h1, h2, h3⟩ := (seenT_iff a).1 hs
      have qb := q3 b (by omega)
      have hi : i < (Tp b).H.length := by rw [← qb.len]; exact h2
      have rb := q1.apart (i := b) (by omega) hi
      rw [qb.e i hi] at h3
      have : (Tp a).H[k] = (Tp b).H[i] := by omega
      exact .inl (helds_mem a b h1 (by rw [this]; exact List.getElem_mem _))
    · have hi : i < (Tp a).H.length := by omega
      have rb := q1.apart (i := a) ha hi
      rw [q.e i hi] at h2
      have : (Tp a).H[k] = (Tp a).H[i] := by omega
      refine .inr ?_
      rw [this]
      exact List.mem_iff_getElem.2 ⟨i, by rw [List.length_take]; omega, List.getElem_take⟩
/-! ### the list, as it is read -/
theorem lsX_at {S : MS} {l0 : List Int} {τ : Int} (h : SK S l0 τ) : ∀ (i : Nat) (a r : List Int), l0 = a ++ r → a.length = i → lsT S i = top r := by
  intro i
  induction i with
  | zero =>
    intro a r e ea
    obtain rfl : a = [] := List.length_eq_zero_iff.1 ea
    have e : l0 = r := e
    subst e
    rw [lsT_0, h.hd, hSlot_top h.r]
  | succ i ih =>
    intro a r e ea
    have hne : a ≠ [] := fun q => by rw [q] at ea; cases ea
    obtain ⟨b, x, rfl⟩ : ∃ b x, a = b ++ [x] := ⟨a.dropLast, a.getLast hne, (List.dropLast_concat_getLast hne).symm⟩
    have eb : b.length = i := by simpa using ea
    have e2 : l0 = b ++ x :: r := by rw [e]; simp
    have := ih b (x :: r) e2 eb
    rw [lsT_s, this, lsM_eq]
    show hSlot (mget S.M (key 9 x 2)) = top r
    have lk : ∀ (b : List Int), links S.M (b ++ x :: r) → mget S.M (key 9 x 2) = hHead (top r) 0 := by
      intro b
      induction b with
      | nil => exact fun q => q.1
      | cons y b ihb => exact fun q => ihb q.2
    rw [lk b (by rw [← e2]; exact h.lk)]
    exact hSlot_top (fun y hy => h.r y (by rw [e2]; simp [hy])) 0
theorem ls_all {S : MS} {l : List Int} {τ : Int} (h : SK S l τ) : (∀ i (hi : i < l.length), lsT S i = l[i] ∧ 0 ≤ lsT S i) ∧ lsT S l.length < 0 := by
  refine ⟨fun i hi => ?_, ?_⟩
  · have := lsX_at h i (l.take i) (l.drop i) (List.take_append_drop i l).symm (by rw [List.length_take]; omega)
    rw [List.drop_eq_getElem_cons hi] at this
    have e : lsT S i = l[i] := this
    exact ⟨e, by rw [e]; exact (h.r _ (List.getElem_mem _)).1⟩
  · have := lsX_at h l.length l [] (by simp) rfl
    rw [this]; decide
/-! ### counts -/
theorem len_of_counts {n : Nat} : ∀ (L : List Int), (∀ x, L.count x ≤ 1) → (∀ x ∈ L, 0 ≤ x ∧ x < (n : Int)) → L.length ≤ n := by
  induction n with
  | zero =>
    intro L _ h
    cases L with
    | nil => exact Nat.le_refl _
    | cons a r => have := h a (by simp); omega
  | succ n ih =>
    intro L hc hr
    have e : ∀ (L : List Int), L.length = (L.filter (fun x => x != (n : Int))).length + L.count (n : Int) := by
      intro L
      induction L with
      | nil => rfl
      | cons a r ihr =>
        by_cases c : a = (n : Int)
        · subst c; simp [List.count_cons] at ihr ⊢; omega
        · rw [List.count_cons, List.filter_cons]
          have h1 : (a != (n : Int)) = true := by simpa using c
          have h2 : (a == (n : Int)) = false := by simpa using c
          rw [h1, h2]; simp at ihr ⊢; omega
    have h1 := ih (L.filter (fun x => x != (n : Int))) (fun x => Nat.le_trans (List.Sublist.count_le x List.filter_sublist) (hc x)) (fun x hx => by
      rw [List.mem_filter] at hx
      have := hr x hx.1
      have hne : x ≠ (n : Int) := by simpa using hx.2
      omega)
    have := e L
    have := hc (n : Int)
    omega
/-- How often each was seen, in the first i. -/
def scN (E : Nat → Int) : Nat → Nat → Int
  | 0 => fun _ => 0
  | i + 1 => fun q => if q = (E i).toNat then IntKind.i64.wrap (scN E i q + 1) else scN E i q
theorem scN_is {E : Nat → Int} {L : List Int} (hE : ∀ i (h : i < L.length), E i = L[i]) (h0 : ∀ x ∈ L, 0 ≤ x) (hl : L.length ≤ 1000000) : ∀ i, i ≤ L.length → ∀ q, scN E i q = ((L.take i).count (q : Int) : Int)
  | 0, _, q => by simp [scN]
  | i + 1, hi, q => by
    have ih := scN_is hE h0 hl i (by omega) q
    have hx := hE i (by omega)
    have hx0 := h0 (L[i]) (List.getElem_mem _)
    rw [List.take_add_one, List.getElem?_eq_getElem (by omega)]
    show (if q = (E i).toNat then IntKind.i64.wrap (scN E i q + 1) else scN E i q) = _
    rw [List.count_append, ih, hx]
    have hle : (L.take i).count (q : Int) ≤ i := Nat.le_trans List.count_le_length (by rw [List.length_take]; omega)
    by_cases c : q = (L[i]).toNat
    · rw [if_pos c, wrap_nat64 _ (by omega) (by omega)]
      have : (L[i] == (q : Int)) = true := by simp; omega
      simp [List.count_cons, this]
    · rw [if_neg c]
      have : (L[i] == (q : Int)) = false := by simp; omega
      simp [List.count_cons, this]
/-- What stands at the end: the list, then what each holds. -/
structure EndI (n : Nat) (S : MS) (T : Nat → FW) (kk : Nat) (L : Nat → List Int) : Prop where
  u : U64 S
  kb : kk ≤ 60
  hT : ∀ i, i < kk → 0 ≤ lsT S i
  hE : lsT S kk < 0
  l0 : (L 0).length = kk ∧ ∀ i (h : i < (L 0).length), lsT S i = (L 0)[i]
  st : ∀ a, a < 6 → ∃ H : List Int, L (a + 1) = L a ++ H ∧ (T a).len = H.length ∧ ∀ k (h : k < H.length), (T a).E ((T a).of + k) = H[k]
  len : ∀ a, a ≤ 6 → (L a).length ≤ 60
  c : ∀ x, (L 6).count x = if 0 ≤ x ∧ x < n then 1 else 0
theorem WI.end {n : Nat} {S : MS} {T : Nat → FW} {B : Nat} (h : WI n S T B) (h0 : ∀ k, k < 6 → (T k).t = 0) : ∃ kk L, EndI n S T kk L := by
  obtain ⟨Tp, l, τ, q1, q2, q3⟩ := h
  have nn := q1.nn
  have hc := q1.rest (fun k hk => by rw [← (q3 k hk).t]; exact h0 k hk)
  have hls := ls_all q1.sk
  have hL : ∀ a, a ≤ 6 → (l ++ helds Tp a).length ≤ (l ++ helds Tp 6).length := by
    have : ∀ m a, (helds Tp a).length ≤ (helds Tp (a + m)).length := by
      intro m
      induction m with
      | zero => exact fun a => Nat.le_refl _
      | succ m ih => intro a; refine Nat.le_trans (ih a) ?_; show _ ≤ (helds Tp (a + m) ++ (Tp (a + m)).H).length; rw [List.length_append]; omega
    intro a ha
    have := this (6 - a) a
    rw [show a + (6 - a) = 6 by omega] at this
    rw [List.length_append, List.length_append]; omega
  have h6 : (l ++ helds Tp 6).length ≤ n := len_of_counts _ (fun x => by rw [hc]; split <;> omega) (fun x hx => by
    have := List.count_pos_iff.2 hx
    rw [hc] at this
    by_cases c : 0 ≤ x ∧ x < n
    · exact c
    · rw [if_neg c] at this; omega)
  have hkk : l.length ≤ 60 := by have := hL 0 (by omega); simp [helds] at this h6; omega
  refine ⟨l.length, fun a => l ++ helds Tp a, q1.sk.u, hkk, fun i hi => (hls.1 i hi).2, hls.2, ⟨by simp [helds], fun i hi => ?_⟩, fun a ha => ⟨(Tp a).H, ?_, (q3 a ha).len, (q3 a ha).e⟩, fun a ha => by have := hL a ha; omega, hc⟩
  · have hi' : i < l.length := by simpa [helds] using hi
    rw [(hls.1 i hi').1]; simp [helds]
  · show l ++ (helds Tp a ++ (Tp a).H) = _; rw [List.append_assoc]
theorem EndI.one {n : Nat} {S : MS} {T : Nat → FW} {kk : Nat} {L : Nat → List Int} (h : EndI n S T kk L) {E : Nat → Int} (hE : ∀ i (q : i < (L 6).length), E i = (L 6)[i]) :
    (∀ i, i < (L 6).length → 0 ≤ E i ∧ E i < n) ∧ ∀ q, q < n → scN E (L 6).length q = 1 := by
  have hr : ∀ x ∈ L 6, 0 ≤ x ∧ x < (n : Int) := fun x hx => by
    have := List.count_pos_iff.2 hx
    rw [h.c] at this
    by_cases c : 0 ≤ x ∧ x < n
    · exact c
    · rw [if_neg c] at this; omega
  refine ⟨fun i hi => by rw [hE i hi]; exact hr _ (List.getElem_mem _), fun q hq => ?_⟩
  have hl := h.len 6 (Nat.le_refl 6)
  rw [scN_is hE (fun x hx => (hr x hx).1) (by omega) _ (Nat.le_refl _), List.take_length, h.c, if_pos (by omega)]
  rfl
theorem ap_rows {E : Nat → Int} {of len : Nat} {s : Int} : ∀ i, i < 0 + (len + 1) → rowOb [.int .i64] 0 (fun j => if i < len then LF E (of + i) j else rowsOf 1 [.sym .i64 s] (i - len) j) (LF (apE E of len s) i) := fun i hi => by
  by_cases c : i < len
  · simp only [c, if_true]
    exact ⟨by show AV.sym .i64 (if i < len then _ else _) = .sym .i64 (E (of + i)); rw [if_pos c], trivial⟩
  · have e : i = len := by omega
    subst e
    simp only [Nat.lt_irrefl, if_false, Nat.sub_self]
    exact ⟨by show AV.sym .i64 (if i < i then _ else _) = .sym .i64 s; rw [if_neg (Nat.lt_irrefl i)], trivial⟩
end Go.Proofs.YtljeiencnpnbkaaDoor
