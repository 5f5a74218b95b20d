/-
  EvFam3 and what follows it.
-/
import Derived.Test.YtmlfmmnnbdlabaaDoorEvFam
import Derived.Test.YtmlfmmnnbdlabaaDoorEvUse
import Derived.Test.YtmlfmmnnbdlabaaDoorEvWords
/-
  A loop by an invariant over a family: rounds out of evaluations that end in a cast; rows of the array.
-/
set_option linter.unusedSimpArgs false
set_option linter.unusedVariables false
namespace Go.Ev

theorem fam_norm {E : Env} {c : Code} {F : Fam} {s0 : St} {e0 : Ex} {s1 : St} {X : Type} {T : X → FSt} {μ : X → Nat} {ok : X → Prop} {x : X} (y : X) (j : Nat) (wth wth' : Bool) {mb mb' : Mb} {fuel : Nat} {m : List (Nat × Src)} {hints : List Hint} {ob : List Prop}
    (h : roundB E fuel c (h0F F s0) m (locSt F (T x) wth mb j []) hints (locSt F (T y) wth' mb' j []) = some (.norm, ob)) (ho : ∀ p ∈ ob, p)
    (hj : wth = true → j < (T x).n) (hm : (T x).M j = mb) (hy : ok y) (hμ : μ y < μ x) (hm' : (T y).M j = mb') (hw : (wth' = true ∧ j < (T y).n) ∨ (wth' = false ∧ (T y).n ≤ j))
    (same : ∀ i, i < (T y).n → i ≠ j → i < (T x).n ∧ (T y).M i = (T x).M i) : FamRound E c F s0 e0 s1 T μ ok x := by
  obtain ⟨s', h1, h2, ob', h3, h4⟩ := roundB_spec h ho
  exact ⟨j, wth, mb, fuel, hints, .norm, s', hj, hm, h1, h2, .inl ⟨rfl, y, wth', mb', m, ob', hy, hμ, hm', hw, same, h3, h4⟩⟩

theorem fam_exit {E : Env} {c : Code} {F : Fam} {s0 : St} {e0 : Ex} {s1 : St} {X : Type} {T : X → FSt} {μ : X → Nat} {ok : X → Prop} {x : X} (j : Nat) (wth : Bool) {mb : Mb} {fuel : Nat} {m : List (Nat × Src)} {hints : List Hint} {ob : List Prop}
    (h : roundB E fuel c s0.hp m (locSt F (T x) wth mb j []) hints s1 = some (e0, ob)) (hne : e0 ≠ .norm) (ho : ∀ p ∈ ob, p)
    (hj : wth = true → j < (T x).n) (hm : (T x).M j = mb) : FamRound E c F s0 e0 s1 T μ ok x := by
  obtain ⟨s', h1, h2, ob', h3, h4⟩ := roundB_spec h ho
  exact ⟨j, wth, mb, fuel, hints, e0, s', hj, hm, h1, h2, .inr ⟨rfl, hne, m, ob', h3, h4⟩⟩

/-! ### rows of a family's array -/
theorem valV_ptr {c : CM} {n k i j : Nat} (h : c.same n k = true) : valV c (.ptr k i j) (.ptr n i j) := ⟨rfl, fun ρ x hx => by
  simp only [den] at hx ⊢
  rw [CM.same_ren h]; exact hx⟩
theorem valV_nilp {c : CM} : valV c .nilp .nilp := ⟨rfl, fun ρ x hx => hx⟩
theorem valV_eq {c : CM} {s s' t : AV} (e : s = s') (h : valV c s' t) : valV c s t := by rw [e]; exact h

/-- Another member's cell: its names lie beyond what a cast gives out. -/
theorem valV_far {c : CM} {F : Fam} {mb : Mb} (hm : MbOk F mb) {b : Nat} (hb : ∀ k, k < F.q → c.fresh (b + k) = false) {cc : Nat} {k : CK} (hk : F.sh[cc]? = some k) : valV c (mrow F.q b mb cc) (mrow F.q b mb cc) := by
  have hkd := mrow_kind hm hk b
  refine ⟨?_, fun ρ x hx => ?_⟩
  · cases k with
    | int k => obtain ⟨n, h | h⟩ := hkd <;> rw [h] <;> rfl
    | bool => obtain ⟨n, h | h⟩ := hkd <;> rw [h] <;> rfl
    | val => exact hkd
  · have := mrow_den hm (ρ := ρ) (ρ' := c.ren ρ) (b := b) (b' := b) (fun n hn => by simp [CM.ren, hb n hn]) hk
    rw [this]; exact hx

theorem rowV_of {c : CM} {f g : Nat → AV} : ∀ (sh : List CK) (j0 : Nat), (∀ (j : Nat) k, sh[j]? = some k → k = .val ∧ valV c (f (j0 + j)) (g (j0 + j))) → rowV c sh j0 f g
  | [], _, _ => trivial
  | k :: r, j0, h => by
    obtain ⟨rfl, h0⟩ := h 0 k rfl
    refine ⟨h0, rowV_of r (j0 + 1) (fun j k hk => ?_)⟩
    have := h (j + 1) k (by simpa using hk)
    rwa [show j0 + (j + 1) = j0 + 1 + j by omega] at this

/-- The rows of a family whose cells are pointers all: all rows but j's are as they were. -/
theorem fam_rows {c : CM} {F : Fam} (hv : ∀ (j : Nat) k, F.sh[j]? = some k → k = .val) (hf : c.hi ≤ F.b0) {M M' : Nat → Mb} {n n' j : Nat} {src : Nat → Nat → AV}
    (hM : ∀ i, i < n' → i ≠ j → MbOk F (M i) ∧ M' i = M i ∧ ∀ cc, src i cc = mrow F.q (F.b0 + F.q * i) (M i) cc)
    (hj : j < n' → ∀ (cc : Nat) k, F.sh[cc]? = some k → valV c (src j cc) (mrow F.q 900 (M' j) cc)) : ∀ i, i < n' → rowV c F.sh 0 (src i) (lrow F.b0 F.q M' j i) := by
  intro i hi
  refine rowV_of F.sh 0 (fun cc k hk => ⟨hv cc k hk, ?_⟩)
  rw [Nat.zero_add]
  by_cases e : i = j
  · subst e
    simp only [lrow, if_true]
    exact hj hi cc k hk
  · obtain ⟨h1, h2, h3⟩ := hM i hi e
    simp only [lrow, e, if_false]
    rw [h3 cc, h2]
    refine valV_far h1 (fun k hk => ?_) hk
    cases hfr : c.fresh (F.b0 + F.q * i + k) with
    | false => rfl
    | true => have := (CM.fresh_iff.1 hfr).2; omega
theorem lrow_j {b0 q : Nat} {M : Nat → Mb} {j c : Nat} {mb : Mb} (h : M j = mb) : lrow b0 q M j j c = mrow q 900 mb c := by simp [lrow, h]
theorem lrow_ne {b0 q : Nat} {M : Nat → Mb} {j i c : Nat} (h : i ≠ j) : lrow b0 q M j i c = mrow q (b0 + q * i) (M i) c := by simp [lrow, h]

end Go.Ev

/-
  Families of operations over both memories: what every '..Play' law needs, once.
  O: an operation's state; mb: its row and its blocks; a round adds one, stores a word, or takes a step of one.
-/
set_option linter.unusedSimpArgs false
set_option linter.unusedVariables false
namespace Go.Ev

/-! ### memories of u64 -/
def U64 (S : MS) : Prop := ∀ k, 0 ≤ mget S.M k ∧ mget S.M k < 18446744073709551616
theorem w64_r (e : Int) : 0 ≤ IntKind.u64.wrap e ∧ IntKind.u64.wrap e < 18446744073709551616 := by
  show 0 ≤ e % 18446744073709551616 ∧ e % 18446744073709551616 < 18446744073709551616
  omega
theorem mset_r {M : List Int → Option Int} {k : List Int} {v : Int} (h : ∀ k, 0 ≤ mget M k ∧ mget M k < 18446744073709551616) (hv : 0 ≤ v ∧ v < 18446744073709551616) : ∀ q, 0 ≤ mget (setKey M k (some v)) q ∧ mget (setKey M k (some v)) q < 18446744073709551616 := by
  intro q
  unfold mget setKey
  by_cases e : q = k
  · simp only [e, if_true]; exact hv
  · simp only [e, if_false]; exact h q
theorem U64.store {S : MS} (h : U64 S) (k a f v : Int) (hv : 0 ≤ v ∧ v < 18446744073709551616) : U64 (mStore S k a f v) := by
  unfold U64 mStore memPut
  cases mayA k a f with
  | true => exact mset_r h hv
  | false => exact h
theorem U64.cas {S : MS} (h : U64 S) (k a f w v : Int) (hv : 0 ≤ v ∧ v < 18446744073709551616) : U64 (mCas S k a f w v) := by
  unfold U64 mCas casM
  cases casD S.M k a f w with
  | true => exact mset_r h hv
  | false => exact h
theorem U64.load {S : MS} (h : U64 S) (k a f : Int) : U64 (mLoad S k a f) := h
theorem U64.nil : U64 ms0 := fun k => ⟨Int.le_refl _, by show (0 : Int) < _; decide⟩
structure Fin2 (S : MS) (R : RS) (n : Nat) : Prop where
  fine : Fine S R n
  u : U64 S
theorem Fin2.load {S : MS} {R : RS} {n : Nat} (h : Fin2 S R n) (k a f : Int) : Fin2 (mLoad S k a f) (rLoad R k a f) (n + 1) := ⟨(h.fine.load k a f).mono (by omega), h.u⟩
theorem Fin2.store {S : MS} {R : RS} {n : Nat} (h : Fin2 S R n) (k a f v : Int) (hv : 0 ≤ v ∧ v < 18446744073709551616) : Fin2 (mStore S k a f v) (rStore R k a f v) (n + 1) := ⟨h.fine.store k a f v, h.u.store k a f v hv⟩
theorem Fin2.cas {S : MS} {R : RS} {n : Nat} (h : Fin2 S R n) (k a f w v : Int) (hv : 0 ≤ v ∧ v < 18446744073709551616) : Fin2 (mCas S k a f w v) (rCas R k a f w v) (n + 1) := ⟨h.fine.cas k a f w v, h.u.cas k a f w v hv⟩
theorem Fin2.one {S : MS} {R : RS} {n : Nat} (h : Fin2 S R n) : Fin2 S R (n + 1) := ⟨h.fine.mono (by omega), h.u⟩
theorem Fin2.mono {S : MS} {R : RS} {n k : Nat} (h : Fin2 S R n) (hk : n ≤ k) : Fin2 S R k := ⟨h.fine.mono hk, h.u⟩
theorem msN_u {W : Nat → Wd} : ∀ n, (∀ i, i < n → 0 ≤ (W i).v ∧ (W i).v < 18446744073709551616) → U64 (msN W n)
  | 0, _ => U64.nil
  | n + 1, h => U64.store (msN_u n (fun i hi => h i (by omega))) _ _ _ _ (by rw [Nat.zero_add]; exact h n (by omega))
/-- Which operation takes a step. -/
def jX (r : Nat → AV) (n : Nat) : Nat := ((IntKind.u64.wrap (avInt (r 1))).tmod (IntKind.u64.wrap (Int.ofNat n))).toNat
theorem jX_lt (r : Nat → AV) {n : Nat} (h0 : n ≠ 0) (h1 : n ≤ 1000) : jX r n < n ∧ 0 ≤ (IntKind.u64.wrap (avInt (r 1))).tmod (IntKind.u64.wrap (Int.ofNat n)) := by
  have hn : IntKind.u64.wrap (Int.ofNat n) = (n : Int) := u64w (by simp) (by simp; omega)
  have hw := (w64_r (avInt (r 1))).1
  unfold jX
  rw [hn, Int.tmod_eq_emod_of_nonneg hw]
  have a := Int.emod_nonneg (IntKind.u64.wrap (avInt (r 1))) (b := (n : Int)) (by omega)
  have b := Int.emod_lt_of_pos (IntKind.u64.wrap (avInt (r 1))) (b := (n : Int)) (by omega)
  omega
/-- .. of a number that is a uint already. -/
def jU (r : Nat → AV) (n : Nat) : Nat := ((avInt (r 1)).tmod (IntKind.u64.wrap (Int.ofNat n))).toNat
theorem jU_lt {r : Nat → AV} (hr : 0 ≤ avInt (r 1)) {n : Nat} (h0 : n ≠ 0) (h1 : n ≤ 1000) : jU r n < n ∧ 0 ≤ (avInt (r 1)).tmod (IntKind.u64.wrap (Int.ofNat n)) := by
  have hn : IntKind.u64.wrap (Int.ofNat n) = (n : Int) := u64w (by simp) (by simp; omega)
  unfold jU
  rw [hn, Int.tmod_eq_emod_of_nonneg hr]
  have a := Int.emod_nonneg (avInt (r 1)) (b := (n : Int)) (by omega)
  have b := Int.emod_lt_of_pos (avInt (r 1)) (b := (n : Int)) (by omega)
  omega
def ltAll : List (Nat × AO) → Bool
  | [] => true
  | (n, _) :: r => match Nat.blt n 900 with
    | true => ltAll r
    | false => match Nat.ble (gnm 0) n with
      | true => ltAll r
      | false => false
theorem ltAll_get : ∀ (l : List (Nat × AO)), ltAll l = true → ∀ n o, get l n = some o → n < 900 ∨ gnm 0 ≤ n
  | [], _, n, o, h => by simp [Go.Ev.get] at h
  | (k, p) :: r, hl, n, o, h => by
    simp only [ltAll] at hl
    split at hl
    · rename_i hk
      rcases get_cons h with ⟨rfl, rfl⟩ | ⟨_, h⟩
      · exact .inl (by simpa [Nat.blt_eq] using hk)
      · exact ltAll_get r hl n o h
    · split at hl
      · rename_i hk
        rcases get_cons h with ⟨rfl, rfl⟩ | ⟨_, h⟩
        · exact .inr (Nat.le_of_ble_eq_true hk)
        · exact ltAll_get r hl n o h
      · cases hl
theorem eqF {a b : Int} (h : ¬ a = b) : (a == b) = false := by simpa using h
theorem eqT {a b : Int} (h : a = b) : (a == b) = true := by simpa using h
theorem z0 : (0 : Int) ≤ 0 ∧ (0 : Int) < 18446744073709551616 := by decide
theorem allVal {sh : List CK} (h : ∀ k ∈ sh, k = .val) : ∀ (j : Nat) k, sh[j]? = some k → k = .val := fun j k e => h k (List.mem_of_getElem? e)
def valAll : List CK → Bool
  | [] => true
  | .val :: r => valAll r
  | _ :: _ => false
theorem valAll_ok : ∀ {sh : List CK}, valAll sh = true → ∀ (j : Nat) k, sh[j]? = some k → k = .val
  | [], _, j, k, e => by simp at e
  | .val :: r, h, 0, k, e => by simp at e; exact e.symm
  | .val :: r, h, j + 1, k, e => valAll_ok (sh := r) h j k (by simpa using e)
  | .int _ :: r, h, _, _, _ => by simp [valAll] at h
  | .bool :: r, h, _, _, _ => by simp [valAll] at h

/-! ### the loop's state -/
structure GX (O : Type) where
  S : MS
  R : RS
  n : Nat
  O : Nat → O
section
variable {O : Type}
def gAdd (x : GX O) (o : O) : GX O := ⟨x.S, x.R, x.n + 1, fun i => if i = x.n then o else x.O i⟩
def gSto (x : GX O) (k a f v : Int) : GX O := ⟨mStore x.S k a f v, rStore x.R k a f v, x.n, x.O⟩
def gPut (x : GX O) (S : MS) (R : RS) (j : Nat) (o : O) : GX O := ⟨S, R, x.n, fun i => if i = j then o else x.O i⟩
structure GIv (ok : O → Prop) (x : GX O) (i q : Nat) : Prop where
  f : Fin2 x.S x.R (q + i)
  n : x.n ≤ i
  o : ∀ j, ok (x.O j)
variable {ok : O → Prop} {x : GX O} {i q : Nat}
theorem GIv.add (h : GIv ok x i q) {o : O} (ho : ok o) : GIv ok (gAdd x o) (i + 1) q := ⟨h.f.one, Nat.succ_le_succ h.n, fun j => by
  show ok (if j = x.n then o else x.O j)
  split
  · exact ho
  · exact h.o j⟩
theorem GIv.sto (h : GIv ok x i q) (k a f : Int) {v : Int} (hv : 0 ≤ v ∧ v < 18446744073709551616) : GIv ok (gSto x k a f v) (i + 1) q := ⟨h.f.store k a f v hv, Nat.le_succ_of_le h.n, h.o⟩
theorem GIv.idle (h : GIv ok x i q) : GIv ok x (i + 1) q := ⟨h.f.one, Nat.le_succ_of_le h.n, h.o⟩
theorem GIv.put (h : GIv ok x i q) {S : MS} {R : RS} (hf : Fin2 S R (q + i + 1)) (j : Nat) {o : O} (ho : ok o) : GIv ok (gPut x S R j o) (i + 1) q := ⟨hf, Nat.le_succ_of_le h.n, fun k => by
  show ok (if k = j then o else x.O k)
  split
  · exact ho
  · exact h.o k⟩
end

/-! ### rows of pointers -/
/-- A source row's cells and a member's: pointers to the same blocks. -/
def cellsSame (c : CM) : List AV → List AV → Bool
  | [], [] => true
  | .nilp :: r, .nilp :: t => cellsSame c r t
  | .ptr a 0 0 :: r, .ptr k 0 0 :: t => match c.same (900 + k) a with
    | true => cellsSame c r t
    | false => false
  | _, _ => false
/-- A member's cells: pointers to its own blocks, or nil. -/
def cellsOk (q : Nat) : List AV → Bool
  | [] => true
  | .nilp :: r => cellsOk q r
  | .ptr k 0 0 :: r => match Nat.blt k q with
    | true => cellsOk q r
    | false => false
  | _ => false
theorem cellsOk_get {q : Nat} : ∀ {l : List AV}, cellsOk q l = true → ∀ c, c < l.length → ∃ v, nth l c = some v ∧ (v = .nilp ∨ ∃ k, k < q ∧ v = .ptr k 0 0)
  | [], _, c, h => by simp at h
  | .nilp :: r, hk, 0, _ => ⟨_, rfl, .inl rfl⟩
  | .nilp :: r, hk, c + 1, h => cellsOk_get (l := r) hk c (by simpa using h)
  | .ptr k 0 0 :: r, hk, 0, _ => by
    simp only [cellsOk] at hk
    split at hk
    · rename_i hb
      exact ⟨_, rfl, .inr ⟨k, by simpa [Nat.blt_eq] using hb, rfl⟩⟩
    · cases hk
  | .ptr k 0 0 :: r, hk, c + 1, h => by
    simp only [cellsOk] at hk
    split at hk
    · exact cellsOk_get (l := r) hk c (by simpa using h)
    · cases hk
theorem mvV_ptr {q b k : Nat} (h : k < q) : mvV q b (.ptr k 0 0) = .ptr (b + k) 0 0 := by
  have : Nat.blt k q = true := by simpa [Nat.blt_eq] using h
  simp [mvV, renV, sft, this]
theorem okV_ptr {q k : Nat} (h : k < q) : okV q (.ptr k 0 0) := fun b => by
  have : Nat.blt k q = true := by simpa [Nat.blt_eq] using h
  exact ⟨.ptr (b + k) 0 0, by simp [renV, sft, this]⟩
theorem okV_nilp {q : Nat} : okV q .nilp := fun b => ⟨.nilp, rfl⟩
theorem cellsSame_val {c : CM} {q : Nat} : ∀ {l t : List AV}, cellsSame c l t = true → cellsOk q t = true → ∀ cc, cc < t.length → ∃ v u, nth l cc = some v ∧ nth t cc = some u ∧ valV c v (mvV q 900 u)
  | [], [], _, _, cc, h => by simp at h
  | .nilp :: r, .nilp :: t, hs, hk, 0, _ => ⟨_, _, rfl, rfl, valV_nilp⟩
  | .nilp :: r, .nilp :: t, hs, hk, cc + 1, h => cellsSame_val (l := r) (t := t) hs hk cc (by simpa using h)
  | .ptr a 0 0 :: r, .ptr k 0 0 :: t, hs, hk, 0, _ => by
    simp only [cellsSame] at hs
    simp only [cellsOk] at hk
    split at hs
    · rename_i h1
      split at hk
      · rename_i h2
        refine ⟨_, _, rfl, rfl, ?_⟩
        rw [mvV_ptr (by simpa [Nat.blt_eq] using h2)]
        exact valV_ptr h1
      · cases hk
    · cases hs
  | .ptr a 0 0 :: r, .ptr k 0 0 :: t, hs, hk, cc + 1, h => by
    simp only [cellsSame] at hs
    simp only [cellsOk] at hk
    split at hs
    · split at hk
      · exact cellsSame_val (l := r) (t := t) hs hk cc (by simpa using h)
      · cases hk
    · cases hs
  | [], x :: r, hs, _, _, _ => by cases x <;> simp [cellsSame] at hs
/-- A member's own blocks are theirs behind a round. -/
def selfSame (c : CM) : Nat → Bool
  | 0 => true
  | k + 1 => match c.same (900 + k) (900 + k) with
    | true => selfSame c k
    | false => false
theorem selfSame_get {c : CM} : ∀ {q : Nat}, selfSame c q = true → ∀ k, k < q → c.same (900 + k) (900 + k) = true
  | 0, _, k, h => absurd h (Nat.not_lt_zero k)
  | q + 1, hs, k, h => by
    simp only [selfSame] at hs
    split at hs
    · rename_i h1
      rcases Nat.lt_or_ge k q with e | e
      · exact selfSame_get hs k e
      · obtain rfl : k = q := by omega
        exact h1
    · cases hs
def objsOk (q : Nat) : List (Nat × AO) → Bool
  | [] => true
  | (n, o) :: r => match Nat.blt n q with
    | true => objsOk q r
    | false => false
structure MbF (F : Fam) (m : Mb) : Prop where
  len : m.cells.length = F.wd
  cells : cellsOk F.q m.cells = true
  objs : ∀ c o, get m.objs c = some o → c < F.q ∧ okO F.q o
theorem mbOk_of {F : Fam} (hF : F.sh.length = F.wd) (hV : valAll F.sh = true) {m : Mb} (h : MbF F m) : MbOk F m := by
  refine ⟨fun c k hk => ?_, h.objs⟩
  have e := valAll_ok hV c k hk
  subst e
  have hc : c < m.cells.length := by rw [h.len, ← hF]; exact (List.getElem?_eq_some_iff.1 hk).1
  obtain ⟨v, h1, h2⟩ := cellsOk_get h.cells c hc
  refine ⟨v, h1, ?_, ?_⟩
  · rcases h2 with rfl | ⟨k, hk, rfl⟩
    · exact okV_nilp
    · exact okV_ptr hk
  · rcases h2 with rfl | ⟨k, hk, rfl⟩ <;> rfl
theorem obj2 {q : Nat} {o0 o1 : AO} (hq : 2 ≤ q) (h0 : okO q o0) (h1 : okO q o1) : ∀ c o, get [(0, o0), (1, o1)] c = some o → c < q ∧ okO q o := by
  intro c o h
  rcases get_cons h with ⟨rfl, rfl⟩ | ⟨_, h⟩
  · exact ⟨by omega, h0⟩
  · rcases get_cons h with ⟨rfl, rfl⟩ | ⟨_, h⟩
    · exact ⟨by omega, h1⟩
    · simp [Go.Ev.get] at h

section
variable {F : Fam} (hF : F.sh.length = F.wd) (hV : valAll F.sh = true) {M M' : Nat → Mb} {n : Nat} (hM : ∀ i, MbF F (M i)) {c : CM} (hc : c.hi = F.b0)
include hF hV hM hc
/-- A member's step: its row stays. -/
theorem fg_do {j : Nat} (hj : (M' j).cells = (M j).cells) (hne : ∀ i, i ≠ j → M' i = M i) (hs : selfSame c F.q = true) {n' : Nat} : ∀ i, i < n' → rowV c F.sh 0 (lrow F.b0 F.q M j i) (lrow F.b0 F.q M' j i) := by
  refine fam_rows (n := 0) (valAll_ok hV) (by rw [hc]; exact Nat.le_refl _) (M := M) (fun i hi h => ⟨mbOk_of hF hV (hM i), hne i h, fun cc => lrow_ne h⟩) (fun _ cc k hk => ?_)
  have hcc : cc < (M j).cells.length := by rw [(hM j).len, ← hF]; exact (List.getElem?_eq_some_iff.1 hk).1
  rw [lrow_j rfl]
  obtain ⟨v, h2, hq⟩ := cellsOk_get (hM j).cells cc hcc
  have e1 : mrow F.q 900 (M j) cc = mvV F.q 900 v := by unfold mrow; rw [h2]
  have e2 : mrow F.q 900 (M' j) cc = mvV F.q 900 v := by unfold mrow; rw [hj, h2]
  rw [e1, e2]
  rcases hq with rfl | ⟨k, hk, rfl⟩
  · exact valV_nilp
  · rw [mvV_ptr hk]
    exact valV_ptr (selfSame_get hs k hk)
theorem fg_no {j : Nat} (hj : n ≤ j) (hO : ∀ i, M' i = M i) : ∀ i, i < n → rowV c F.sh 0 (lrow F.b0 F.q M j i) (lrow F.b0 F.q M' j i) :=
  fam_rows (n := 0) (valAll_ok hV) (by rw [hc]; exact Nat.le_refl _) (M := M) (fun i hi h => ⟨mbOk_of hF hV (hM i), hO i, fun cc => lrow_ne h⟩) (fun h cc k hk => by omega)
theorem fg_add {l t : List AV} (h' : MbF F (M' n)) (ht : (M' n).cells = t) (hs : cellsSame c l t = true) (hne : ∀ i, i ≠ n → M' i = M i) : ∀ i, i < n + 1 → rowV c F.sh 0 (fun j => if i < n then lrow F.b0 F.q M n (0 + i) j else rowsOf F.wd l (i - n) j) (lrow F.b0 F.q M' n i) := by
  refine fam_rows (n := 0) (valAll_ok hV) (by rw [hc]; exact Nat.le_refl _) (M := M) (src := fun i j => if i < n then lrow F.b0 F.q M n (0 + i) j else rowsOf F.wd l (i - n) j) (fun i hi h => ⟨mbOk_of hF hV (hM i), hne i h, fun cc => ?_⟩) (fun _ cc k hk => ?_)
  · show (if i < n then _ else _) = _
    rw [if_pos (by omega), Nat.zero_add]
    exact lrow_ne h
  · show valV c (if n < n then _ else _) _
    rw [if_neg (Nat.lt_irrefl _), Nat.sub_self]
    have hcc : cc < (M' n).cells.length := by rw [h'.len, ← hF]; exact (List.getElem?_eq_some_iff.1 hk).1
    subst ht
    obtain ⟨v, u, h1, h2, h3⟩ := cellsSame_val hs h'.cells cc hcc
    have e2 : mrow F.q 900 (M' n) cc = mvV F.q 900 u := by unfold mrow; rw [h2]
    rw [e2]
    refine valV_eq ?_ h3
    simp [rowsOf, h1]
end
end Go.Ev
