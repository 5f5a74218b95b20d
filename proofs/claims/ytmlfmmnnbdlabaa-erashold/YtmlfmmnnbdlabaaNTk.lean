/-
  Snapshots: a step of the Taker at a word: its contract.
-/
import Derived.Test.YtmlfmmnnbdlabaaNTkDef
set_option linter.unusedSimpArgs false
set_option linter.unusedVariables false
namespace Go.Proofs.Ytmlfmmnnbdlabaa
open Go.Ev
/-- What a word that is read leaves to be shown. -/
def tkL (M : List Int → Option Int) (st c0 k0 a0 f0 w0 i0 : Int) (d0 : Bool) (ta fl al ep : Int) (n : Nat) (F : Nat → Nat → AV) : List Prop := [n ≤ n, tkF F ta fl (mget M (key 8 ta fl)) = upd F (0 + ta.toNat) fl.toNat [.sym .u64 (mget M (key 8 ta fl))] ∧ plainSh tSh = true ∨ ∀ i, i < n → rowOb tSh 0 (upd F (0 + ta.toNat) fl.toNat [.sym .u64 (mget M (key 8 ta fl))] i) (tkF F ta fl (mget M (key 8 ta fl)) i), IntKind.i64.wrap (st + 1) = IntKind.i64.wrap (st + 1), (1 : Int) = 1, (8 : Int) = 8, ta = ta, fl = fl, mget M (key 8 ta fl) = mget M (key 8 ta fl), mget M (key 8 ta fl) = mget M (key 8 ta fl), false = false, ∀ k : List Int, M k = M k]
def tkZ (ta : Int) (n : Nat) : List Prop := [(0 + ta.toNat).blt n = true, (0 + ta.toNat).blt n = true, (ta.toNat.blt n && decide (0 ≤ ta)) = true]
theorem tk_mid (M : List Int → Option Int) (st c0 k0 a0 f0 w0 i0 : Int) (d0 : Bool) (ta fl al ep : Int) (n : Nat) (F : Nat → Nat → AV) (h : 1 ≤ fl ∧ fl ≤ 8) : callB EMo3 3000 33 [.ptr 1 0 0, .ptr 3 0 0] (tkH M st c0 k0 a0 f0 w0 i0 d0 ta fl al ep n F) (tkR M st c0 k0 a0 f0 w0 i0 d0 ta fl al ep n F ta (fl + 1) []) [] ([.node [], .node [(16, [.k (nK fl)])], .b false, .b false, .node [], .b false]) = some ([(0 : Nat) = 0, (0 : Nat) = 0, (0 : Nat) = 0, n = n, some n = some n, ep = ep, ta = ta, IntKind.i64.wrap (fl + 1) = fl + 1, al = al, false = false] ++ tkL M st c0 k0 a0 f0 w0 i0 d0 ta fl al ep n F ++ [(ta == al) = false, (IntKind.i64.wrap (fl + 1) == 10) = false, (avInt (upd F (0 + ta.toNat) fl.toNat [.sym .u64 (mget M (key 8 ta fl))] (0 + ta.toNat) 0) == 0) = false] ++ tkZ ta n) := by
  rcases (show fl = 1 ∨ fl = 2 ∨ fl = 3 ∨ fl = 4 ∨ fl = 5 ∨ fl = 6 ∨ fl = 7 ∨ fl = 8 by omega) with rfl | rfl | rfl | rfl | rfl | rfl | rfl | rfl <;> kernel_rfl
theorem tk_zn (M : List Int → Option Int) (st c0 k0 a0 f0 w0 i0 : Int) (d0 : Bool) (ta fl al ep : Int) (n : Nat) (F : Nat → Nat → AV) (h : fl = 0) : callB EMo3 3000 33 [.ptr 1 0 0, .ptr 3 0 0] (tkH M st c0 k0 a0 f0 w0 i0 d0 ta fl al ep n F) (tkR M st c0 k0 a0 f0 w0 i0 d0 ta fl al ep n F ta (fl + 1) []) [] ([.node [], .node [(16, [.k (nK fl)])], .b false, .b false, .node [], .b false]) = some ([(0 : Nat) = 0, (0 : Nat) = 0, (0 : Nat) = 0, n = n, some n = some n, ep = ep, ta = ta, IntKind.i64.wrap (fl + 1) = fl + 1, al = al, false = false] ++ tkL M st c0 k0 a0 f0 w0 i0 d0 ta fl al ep n F ++ [(ta == al) = false, (IntKind.i64.wrap (fl + 1) == 10) = false, (avInt (upd F (0 + ta.toNat) fl.toNat [.sym .u64 (mget M (key 8 ta fl))] (0 + ta.toNat) 0) == 0) = false] ++ tkZ ta n) := by
  subst h; kernel_rfl
theorem tk_zc (M : List Int → Option Int) (st c0 k0 a0 f0 w0 i0 : Int) (d0 : Bool) (ta fl al ep : Int) (n : Nat) (F : Nat → Nat → AV) (h : fl = 0) : callB EMo3 3000 33 [.ptr 1 0 0, .ptr 3 0 0] (tkH M st c0 k0 a0 f0 w0 i0 d0 ta fl al ep n F) (tkR M st c0 k0 a0 f0 w0 i0 d0 ta fl al ep n F (ta + 1) 0 []) [] ([.node [], .node [(16, [.k (nK fl)])], .b true, .node [], .b false]) = some ([(0 : Nat) = 0, (0 : Nat) = 0, (0 : Nat) = 0, n = n, some n = some n, ep = ep, IntKind.i64.wrap (ta + 1) = ta + 1, (0 : Int) = 0, al = al, false = false] ++ tkL M st c0 k0 a0 f0 w0 i0 d0 ta fl al ep n F ++ [(IntKind.i64.wrap (ta + 1) == al) = false, (avInt (upd F (0 + ta.toNat) fl.toNat [.sym .u64 (mget M (key 8 ta fl))] (0 + ta.toNat) 0) == 0) = true] ++ tkZ ta n) := by
  subst h; kernel_rfl
theorem tk_zo (M : List Int → Option Int) (st c0 k0 a0 f0 w0 i0 : Int) (d0 : Bool) (ta fl al ep : Int) (n : Nat) (F : Nat → Nat → AV) (h : fl = 0) : callB EMo3 3000 33 [.ptr 1 0 0, .ptr 3 0 0] (tkH M st c0 k0 a0 f0 w0 i0 d0 ta fl al ep n F) (tkQ M st c0 k0 a0 f0 w0 i0 d0 ta fl al ep n F (ta + 1) 0 []) [] ([.node [], .node [(16, [.k (nK fl)])], .b true, .node [], .b true]) = some ([(0 : Nat) = 0, n = n, some n = some n, ep = ep, IntKind.i64.wrap (ta + 1) = ta + 1, (0 : Int) = 0, al = al, false = false] ++ tkL M st c0 k0 a0 f0 w0 i0 d0 ta fl al ep n F ++ [(IntKind.i64.wrap (ta + 1) == al) = true, (avInt (upd F (0 + ta.toNat) fl.toNat [.sym .u64 (mget M (key 8 ta fl))] (0 + ta.toNat) 0) == 0) = true] ++ tkZ ta n) := by
  subst h; kernel_rfl
theorem tk_nc (M : List Int → Option Int) (st c0 k0 a0 f0 w0 i0 : Int) (d0 : Bool) (ta fl al ep : Int) (n : Nat) (F : Nat → Nat → AV) (h : fl = 9) : callB EMo3 3000 33 [.ptr 1 0 0, .ptr 3 0 0] (tkH M st c0 k0 a0 f0 w0 i0 d0 ta fl al ep n F) (tkR M st c0 k0 a0 f0 w0 i0 d0 ta fl al ep n F (ta + 1) 0 []) [] ([.node [], .node [(16, [.k (nK fl)])], .b false, .b true, .node [], .b false]) = some ([(0 : Nat) = 0, (0 : Nat) = 0, (0 : Nat) = 0, n = n, some n = some n, ep = ep, IntKind.i64.wrap (ta + 1) = ta + 1, (0 : Int) = 0, al = al, false = false] ++ tkL M st c0 k0 a0 f0 w0 i0 d0 ta fl al ep n F ++ [(IntKind.i64.wrap (ta + 1) == al) = false, (IntKind.i64.wrap (fl + 1) == 10) = true, (avInt (upd F (0 + ta.toNat) fl.toNat [.sym .u64 (mget M (key 8 ta fl))] (0 + ta.toNat) 0) == 0) = false] ++ tkZ ta n) := by
  subst h; kernel_rfl
theorem tk_no (M : List Int → Option Int) (st c0 k0 a0 f0 w0 i0 : Int) (d0 : Bool) (ta fl al ep : Int) (n : Nat) (F : Nat → Nat → AV) (h : fl = 9) : callB EMo3 3000 33 [.ptr 1 0 0, .ptr 3 0 0] (tkH M st c0 k0 a0 f0 w0 i0 d0 ta fl al ep n F) (tkQ M st c0 k0 a0 f0 w0 i0 d0 ta fl al ep n F (ta + 1) 0 []) [] ([.node [], .node [(16, [.k (nK fl)])], .b false, .b true, .node [], .b true]) = some ([(0 : Nat) = 0, n = n, some n = some n, ep = ep, IntKind.i64.wrap (ta + 1) = ta + 1, (0 : Int) = 0, al = al, false = false] ++ tkL M st c0 k0 a0 f0 w0 i0 d0 ta fl al ep n F ++ [(IntKind.i64.wrap (ta + 1) == al) = true, (IntKind.i64.wrap (fl + 1) == 10) = true, (avInt (upd F (0 + ta.toNat) fl.toNat [.sym .u64 (mget M (key 8 ta fl))] (0 + ta.toNat) 0) == 0) = false] ++ tkZ ta n) := by
  subst h; kernel_rfl
theorem tkF_upd (F : Nat → Nat → AV) (ta fl w : Int) : tkF F ta fl w = upd F (0 + ta.toNat) fl.toNat [.sym .u64 w] := by
  funext i j
  unfold tkF upd
  rw [Nat.zero_add]
  by_cases hi : i = ta.toNat
  · rw [if_pos hi, if_pos hi]
    by_cases hj : j = fl.toNat
    · subst hj
      rw [if_pos rfl, if_pos (Nat.le_refl _), Nat.sub_self]; rfl
    · rw [if_neg hj]
      by_cases hl : fl.toNat ≤ j
      · rw [if_pos hl]
        obtain ⟨k, hk⟩ : ∃ k, j - fl.toNat = k + 1 := ⟨j - fl.toNat - 1, by omega⟩
        rw [hk]; rfl
      · rw [if_neg hl]
  · rw [if_neg hi, if_neg hi]
theorem tkL_ok (M : List Int → Option Int) (st c0 k0 a0 f0 w0 i0 : Int) (d0 : Bool) (ta fl al ep : Int) (n : Nat) (F : Nat → Nat → AV) : ∀ p ∈ tkL M st c0 k0 a0 f0 w0 i0 d0 ta fl al ep n F, p := cj ⟨Nat.le_refl _, .inl ⟨tkF_upd .., rfl⟩, rfl, rfl, rfl, rfl, rfl, rfl, rfl, rfl, fun _ => rfl, trivial⟩
theorem tkZ_ok {ta : Int} {n : Nat} (h0 : 0 ≤ ta) (h1 : ta < n) : ∀ p ∈ tkZ ta n, p := by
  have hb : ta.toNat.blt n = true := by simpa [Nat.blt_eq] using (by omega : ta.toNat < n)
  have hb2 : (0 + ta.toNat).blt n = true := by rw [Nat.zero_add]; exact hb
  exact cj ⟨hb2, hb2, by rw [hb]; exact decide_eq_true h0, trivial⟩
/-- Whose turn it is next. -/
def tkOwn (M : List Int → Option Int) (F : Nat → Nat → AV) (ta fl : Int) : Int := avInt (tkF F ta fl (mget M (key 8 ta fl)) ta.toNat 0)
def tkAt (M : List Int → Option Int) (F : Nat → Nat → AV) (ta fl : Int) : Int := if tkOwn M F ta fl = 0 ∨ fl = 9 then ta + 1 else ta
def tkFl (M : List Int → Option Int) (F : Nat → Nat → AV) (ta fl : Int) : Int := if tkOwn M F ta fl = 0 ∨ fl = 9 then 0 else fl + 1
structure TkPre (F : Nat → Nat → AV) (ta fl al : Int) (n : Nat) : Prop where
  f0 : 0 ≤ fl
  f9 : fl ≤ 9
  t0 : 0 ≤ ta
  tn : ta < n
  al : al = n
  n : n ≤ 100000
  own : fl ≠ 0 → avInt (F ta.toNat 0) ≠ 0
noncomputable def tkcR (M : List Int → Option Int) (st c0 k0 a0 f0 w0 i0 : Int) (d0 : Bool) (ta fl al ep : Int) (n : Nat) (F : Nat → Nat → AV) : LR := tkR M st c0 k0 a0 f0 w0 i0 d0 ta fl al ep n F (tkAt M F ta fl) (tkFl M F ta fl) [TkPre F ta fl al n, tkAt M F ta fl ≠ al]
noncomputable def tkoR (M : List Int → Option Int) (st c0 k0 a0 f0 w0 i0 : Int) (d0 : Bool) (ta fl al ep : Int) (n : Nat) (F : Nat → Nat → AV) : LR := tkQ M st c0 k0 a0 f0 w0 i0 d0 ta fl al ep n F (tkAt M F ta fl) (tkFl M F ta fl) [TkPre F ta fl al n, tkAt M F ta fl = al]
theorem tkOwn_eq (M : List Int → Option Int) (F : Nat → Nat → AV) (ta fl : Int) : avInt (upd F (0 + ta.toNat) fl.toNat [.sym .u64 (mget M (key 8 ta fl))] (0 + ta.toNat) 0) = tkOwn M F ta fl := by
  unfold tkOwn
  rw [tkF_upd, Nat.zero_add]
theorem tkOwn_mid {M : List Int → Option Int} {F : Nat → Nat → AV} {ta fl : Int} (h0 : 0 ≤ fl) (h : fl ≠ 0) : tkOwn M F ta fl = avInt (F ta.toNat 0) := by
  unfold tkOwn tkF
  rw [if_pos rfl, if_neg (by omega)]
theorem tkc_loc (M : List Int → Option Int) (st c0 k0 a0 f0 w0 i0 : Int) (d0 : Bool) (ta fl al ep : Int) (n : Nat) (F : Nat → Nat → AV) : LocOk Try.prog 33 [.ptr 1 0 0, .ptr 3 0 0] (tkH M st c0 k0 a0 f0 w0 i0 d0 ta fl al ep n F) (tkcR M st c0 k0 a0 f0 w0 i0 d0 ta fl al ep n F) := by
  intro ρ w hob
  have hp : TkPre F ta fl al n := hob _ (List.mem_cons_self ..)
  have hne : tkAt M F ta fl ≠ al := hob _ (List.mem_cons_of_mem _ (List.mem_cons_self ..))
  clear hob
  revert ρ w
  obtain ⟨g0, g9, t0, tn, hal, hn, own⟩ := hp
  have hg : IntKind.i64.wrap (ta + 1) = ta + 1 := i64w (by omega) (by omega)
  have hf : IntKind.i64.wrap (fl + 1) = fl + 1 := i64w (by omega) (by omega)
  have low := tkOwn_eq M F ta fl
  have hz := tkZ_ok t0 tn
  have hl := tkL_ok M st c0 k0 a0 f0 w0 i0 d0 ta fl al ep n F
  have go : tkOwn M F ta fl = 0 ∨ fl = 9 → tkcR M st c0 k0 a0 f0 w0 i0 d0 ta fl al ep n F = tkR M st c0 k0 a0 f0 w0 i0 d0 ta fl al ep n F (ta + 1) 0 [TkPre F ta fl al n, tkAt M F ta fl ≠ al] := fun h => by unfold tkcR; rw [show tkAt M F ta fl = ta + 1 from if_pos h, show tkFl M F ta fl = 0 from if_pos h]
  have sty : ¬ (tkOwn M F ta fl = 0 ∨ fl = 9) → tkcR M st c0 k0 a0 f0 w0 i0 d0 ta fl al ep n F = tkR M st c0 k0 a0 f0 w0 i0 d0 ta fl al ep n F ta (fl + 1) [TkPre F ta fl al n, tkAt M F ta fl ≠ al] := fun h => by unfold tkcR; rw [show tkAt M F ta fl = ta from if_neg h, show tkFl M F ta fl = fl + 1 from if_neg h]
  have base : ∀ (a2 f2 : Int) (obs : List Prop) (hh : List Hint) (ob : List Prop), callB EMo3 3000 33 [.ptr 1 0 0, .ptr 3 0 0] (tkH M st c0 k0 a0 f0 w0 i0 d0 ta fl al ep n F) (tkR M st c0 k0 a0 f0 w0 i0 d0 ta fl al ep n F a2 f2 []) [] hh = some ob → (∀ p ∈ ob, p) → ∀ (ρ : Ren) (w : World), (∀ p ∈ obs, p) → _ := fun a2 f2 obs hh ob h1 h2 ρ w _ => (loc_of_call EMo3_ok (R := tkR M st c0 k0 a0 f0 w0 i0 d0 ta fl al ep n F a2 f2 []) (fun _ => ⟨3000, hh, [], ob, h1, h2⟩)) ρ w (fun p hp => by cases hp)
  by_cases h9 : fl = 9
  · rw [go (.inr h9)]
    have ha : tkAt M F ta fl = ta + 1 := if_pos (.inr h9)
    have ho : tkOwn M F ta fl ≠ 0 := by rw [tkOwn_mid g0 (by omega)]; exact own (by omega)
    exact fun ρ w => base _ _ [] _ _ (tk_nc M st c0 k0 a0 f0 w0 i0 d0 ta fl al ep n F h9) (ob_app (ob_app (ob_app (cj ⟨rfl, rfl, rfl, rfl, rfl, rfl, hg, rfl, rfl, rfl, trivial⟩) hl) (cj ⟨by rw [hg]; simpa using (ha ▸ hne), by rw [hf, h9]; rfl, by rw [low]; simpa using ho, trivial⟩)) hz) ρ w (fun p hp => by cases hp)
  · by_cases h0 : fl = 0
    · by_cases ho : tkOwn M F ta fl = 0
      · rw [go (.inl ho)]
        have ha : tkAt M F ta fl = ta + 1 := if_pos (.inl ho)
        exact fun ρ w => base _ _ [] _ _ (tk_zc M st c0 k0 a0 f0 w0 i0 d0 ta fl al ep n F h0) (ob_app (ob_app (ob_app (cj ⟨rfl, rfl, rfl, rfl, rfl, rfl, hg, rfl, rfl, rfl, trivial⟩) hl) (cj ⟨by rw [hg]; simpa using (ha ▸ hne), by rw [low, ho]; rfl, trivial⟩)) hz) ρ w (fun p hp => by cases hp)
      · rw [sty (fun h => h.elim ho h9)]
        exact fun ρ w => base _ _ [] _ _ (tk_zn M st c0 k0 a0 f0 w0 i0 d0 ta fl al ep n F h0) (ob_app (ob_app (ob_app (cj ⟨rfl, rfl, rfl, rfl, rfl, rfl, rfl, hf, rfl, rfl, trivial⟩) hl) (cj ⟨by simpa using (show ta ≠ al by omega), by rw [hf, h0]; rfl, by rw [low]; simpa using ho, trivial⟩)) hz) ρ w (fun p hp => by cases hp)
    · have ho : tkOwn M F ta fl ≠ 0 := by rw [tkOwn_mid g0 h0]; exact own h0
      rw [sty (fun h => h.elim ho h9)]
      exact fun ρ w => base _ _ [] _ _ (tk_mid M st c0 k0 a0 f0 w0 i0 d0 ta fl al ep n F ⟨by omega, by omega⟩) (ob_app (ob_app (ob_app (cj ⟨rfl, rfl, rfl, rfl, rfl, rfl, rfl, hf, rfl, rfl, trivial⟩) hl) (cj ⟨by simpa using (show ta ≠ al by omega), by rw [hf]; simpa using (show fl + 1 ≠ 10 by omega), by rw [low]; simpa using ho, trivial⟩)) hz) ρ w (fun p hp => by cases hp)
theorem tko_loc (M : List Int → Option Int) (st c0 k0 a0 f0 w0 i0 : Int) (d0 : Bool) (ta fl al ep : Int) (n : Nat) (F : Nat → Nat → AV) : LocOk Try.prog 33 [.ptr 1 0 0, .ptr 3 0 0] (tkH M st c0 k0 a0 f0 w0 i0 d0 ta fl al ep n F) (tkoR M st c0 k0 a0 f0 w0 i0 d0 ta fl al ep n F) := by
  intro ρ w hob
  have hp : TkPre F ta fl al n := hob _ (List.mem_cons_self ..)
  have hne : tkAt M F ta fl = al := hob _ (List.mem_cons_of_mem _ (List.mem_cons_self ..))
  clear hob
  revert ρ w
  obtain ⟨g0, g9, t0, tn, hal, hn, own⟩ := hp
  have hg : IntKind.i64.wrap (ta + 1) = ta + 1 := i64w (by omega) (by omega)
  have hf : IntKind.i64.wrap (fl + 1) = fl + 1 := i64w (by omega) (by omega)
  have low := tkOwn_eq M F ta fl
  have hz := tkZ_ok t0 tn
  have hl := tkL_ok M st c0 k0 a0 f0 w0 i0 d0 ta fl al ep n F
  have hc : tkOwn M F ta fl = 0 ∨ fl = 9 := Classical.byContradiction (fun h => by
    have : tkAt M F ta fl = ta := if_neg h
    omega)
  have ha : tkAt M F ta fl = ta + 1 := if_pos hc
  have go : tkoR M st c0 k0 a0 f0 w0 i0 d0 ta fl al ep n F = tkQ M st c0 k0 a0 f0 w0 i0 d0 ta fl al ep n F (ta + 1) 0 [TkPre F ta fl al n, tkAt M F ta fl = al] := by unfold tkoR; rw [show tkAt M F ta fl = ta + 1 from if_pos hc, show tkFl M F ta fl = 0 from if_pos hc]
  have base : ∀ (a2 f2 : Int) (obs : List Prop) (hh : List Hint) (ob : List Prop), callB EMo3 3000 33 [.ptr 1 0 0, .ptr 3 0 0] (tkH M st c0 k0 a0 f0 w0 i0 d0 ta fl al ep n F) (tkQ M st c0 k0 a0 f0 w0 i0 d0 ta fl al ep n F a2 f2 []) [] hh = some ob → (∀ p ∈ ob, p) → ∀ (ρ : Ren) (w : World), (∀ p ∈ obs, p) → _ := fun a2 f2 obs hh ob h1 h2 ρ w _ => (loc_of_call EMo3_ok (R := tkQ M st c0 k0 a0 f0 w0 i0 d0 ta fl al ep n F a2 f2 []) (fun _ => ⟨3000, hh, [], ob, h1, h2⟩)) ρ w (fun p hp => by cases hp)
  rw [go]
  have he : (IntKind.i64.wrap (ta + 1) == al) = true := by rw [hg]; simpa using (ha ▸ hne)
  by_cases h9 : fl = 9
  · have ho : tkOwn M F ta fl ≠ 0 := by rw [tkOwn_mid g0 (by omega)]; exact own (by omega)
    exact fun ρ w => base _ _ [] _ _ (tk_no M st c0 k0 a0 f0 w0 i0 d0 ta fl al ep n F h9) (ob_app (ob_app (ob_app (cj ⟨rfl, rfl, rfl, rfl, hg, rfl, rfl, rfl, trivial⟩) hl) (cj ⟨he, by rw [hf, h9]; rfl, by rw [low]; simpa using ho, trivial⟩)) hz) ρ w (fun p hp => by cases hp)
  · have ho : tkOwn M F ta fl = 0 := hc.resolve_right h9
    have h0 : fl = 0 := Classical.byContradiction (fun h0 => by
      rw [tkOwn_mid g0 h0] at ho
      exact own h0 ho)
    exact fun ρ w => base _ _ [] _ _ (tk_zo M st c0 k0 a0 f0 w0 i0 d0 ta fl al ep n F h0) (ob_app (ob_app (ob_app (cj ⟨rfl, rfl, rfl, rfl, hg, rfl, rfl, rfl, trivial⟩) hl) (cj ⟨he, by rw [low, ho]; rfl, trivial⟩)) hz) ρ w (fun p hp => by cases hp)
end Go.Proofs.Ytmlfmmnnbdlabaa
