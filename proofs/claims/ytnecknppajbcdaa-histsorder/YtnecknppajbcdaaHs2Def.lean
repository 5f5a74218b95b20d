/-
  Histories: Begin: definitions.
-/
import Derived.Test.YtnecknppajbcdaaHs
set_option linter.unusedSimpArgs false
set_option linter.unusedVariables false
namespace Go.Proofs.Ytnecknppajbcdaa
open Go.Ev

noncomputable def EH2 : Env := envOf Try.prog [(33, nrm undSpec), (34, nrm rundSpec)]
theorem EH2_ok : EnvOk EH2 := envOf_ok hgood ⟨nrm_ok undSpec_ok, nrm_ok rundSpec_ok, trivial⟩
def bgE (last : Int) (u : Int) (t o s : Int) : Int := if 0 ≤ t ∧ t < 16 ∧ o ≤ 7 ∧ last ≤ s then (if u ≠ -1 then 7 else 0) else 1
def onOk {α : Type} (e : Int) (a b : α) : α := if e = 0 then a else b
theorem onOk_t {α : Type} {e : Int} {a b : α} (h : e = 0) : onOk e a b = a := if_pos h
theorem onOk_f {α : Type} {e : Int} {a b : α} (h : e ≠ 0) : onOk e a b = b := if_neg h
def mkCl (t o k v s : Int) : Cl := ⟨t, o, k, v, 0, 0, s, -1, -1⟩
def snocC (n : Nat) (C : Nat → Cl) (c : Cl) : Nat → Cl := fun i => if i < n then C i else c
def ptE (n : Nat) (C : Nat → Cl) (c a s : Int) : Int := if c < 0 ∨ n ≤ c then 1 else if s < (C c.toNat).fr ∨ ¬ (a = 1 ∨ a = 2) then 1 else if (C c.toNat).to ≠ -1 then 4 else 0
def ptC (e : Int) (C : Nat → Cl) (c a v s : Int) : Nat → Cl := fun i => if e = 0 ∧ i = c.toNat then ⟨(C i).th, (C i).op, (C i).ky, (C i).va, a, v, (C i).fr, s, (C i).to⟩ else C i
def enE (n : Nat) (C : Nat → Cl) (last c s : Int) : Int := if c < 0 ∨ n ≤ c then 1 else if s < last then 1 else if (C c.toNat).to ≠ -1 then 4 else 0
def enC (e : Int) (C : Nat → Cl) (c s : Int) : Nat → Cl := fun i => if e = 0 ∧ i = c.toNat then ⟨(C i).th, (C i).op, (C i).ky, (C i).va, (if (C i).pt = -1 then 3 else (C i).an), (C i).gt, (C i).fr, (C i).pt, s⟩ else C i
def rbE (last : Int) (u : Int) (t o s : Int) : Int := if t < 0 ∨ 15 < t ∨ 7 < o ∨ s < last then 1 else if 0 ≤ u then 7 else 0
def rpE (n : Nat) (C : Nat → Cl) (c a s : Int) : Int := if c < 0 ∨ n ≤ c then 1 else if s < (C c.toNat).fr ∨ ¬ (a = 1 ∨ a = 2) then 1 else if 0 ≤ (C c.toNat).to then 4 else 0
def reE (n : Nat) (C : Nat → Cl) (last c s : Int) : Int := if c < 0 ∨ n ≤ c then 1 else if s < last then 1 else if 0 ≤ (C c.toNat).to then 4 else 0
def rnC (e : Int) (C : Nat → Cl) (c s : Int) : Nat → Cl := fun i => if e = 0 ∧ i = c.toNat then ⟨(C i).th, (C i).op, (C i).ky, (C i).va, (if (C i).pt < 0 then 3 else (C i).an), (C i).gt, (C i).fr, (C i).pt, s⟩ else C i
theorem snoc_rows {n : Nat} {f : Nat → Nat → AV} {c : Cl} {k : Nat} (h : k ≤ n) : ∀ i, i < k → rowOb cSh 0 (f i) (cF (snocC n (fCl f) c) i) := fun i hi => row_c (by
  have : i < n := by omega
  simp [snocC, this, fCl])
theorem snoc_rows' {n : Nat} {f : Nat → Nat → AV} {c : Cl} {l : List AV} (hl : clOf (fun j => rowsOf 9 l 0 j) = c) : ∀ i, i < n + 1 → rowOb cSh 0 (fun j => if i < n then f (0 + i) j else rowsOf 9 l (i - n) j) (cF (snocC n (fCl f) c) i) := fun i hi => by
  by_cases h : i < n
  · simp only [h, if_true, Nat.zero_add]
    exact row_c (by simp [snocC, h, fCl])
  · have : i = n := by omega
    subst this
    simp only [Nat.lt_irrefl, if_false, Nat.sub_self]
    exact row_c (by simp [snocC]; exact hl)
theorem snocd_rows {n : Nat} {f : Nat → Nat → AV} {c : Cl} {k : Nat} (h : k ≤ n) : ∀ i, i < k → rowOb dSh 0 (f i) (dF (snocC n (fCl f) c) i) := fun i hi => row_d (by
  have : i < n := by omega
  simp [snocC, this, fCl])
theorem snocd_rows' {n : Nat} {f : Nat → Nat → AV} {c : Cl} {l : List AV} (hl : clOf (fun j => rowsOf 9 l 0 j) = c) : ∀ i, i < n + 1 → rowOb dSh 0 (fun j => if i < n then f (0 + i) j else rowsOf 9 l (i - n) j) (dF (snocC n (fCl f) c) i) := fun i hi => by
  by_cases h : i < n
  · simp only [h, if_true, Nat.zero_add]
    exact row_d (by simp [snocC, h, fCl])
  · have : i = n := by omega
    subst this
    simp only [Nat.lt_irrefl, if_false, Nat.sub_self]
    exact row_d (by simp [snocC]; exact hl)

noncomputable def begH (t o ky va s : Int) (n l : Nat) (f : Nat → Nat → AV) (U : List Int → Option Int) (last : Int) : List (Nat × AO) := [(1, .cells 3 [.ss 9 2 0 n none, .map 3, .sym .i64 last]), (2, .arr 9 cSh false l f), (3, .map 76 U)]
noncomputable def begR (t o ky va s : Int) (n l : Nat) (f : Nat → Nat → AV) (U : List Int → Option Int) (last : Int) : LR := ⟨3, .tup [.sym .i64 (onOk (bgE last (undI U t) t o s) (Int.ofNat n) (-1)), .sym .i64 (bgE last (undI U t) t o s)], [(1, .cells 3 [.ss 9 4 0 (onOk (bgE last (undI U t) t o s) (n + 1) n) none, .map 3, .sym .i64 (onOk (bgE last (undI U t) t o s) s last)]), (4, .arr 9 cSh false (onOk (bgE last (undI U t) t o s) (n + 1) n) (cF (snocC n (fCl f) (mkCl t o ky va s)))), (3, .map 76 (onOk (bgE last (undI U t) t o s) (setKey U [t] (some (Int.ofNat n))) U))], 1, [1, 2, 3], [n ≤ l, n ≤ 100000]⟩
noncomputable def pntH (c an va s : Int) (n l : Nat) (f : Nat → Nat → AV) (U : List Int → Option Int) (last : Int) : List (Nat × AO) := [(1, .cells 3 [.ss 9 2 0 n none, .map 3, .sym .i64 last]), (2, .arr 9 cSh false l f), (3, .map 76 U)]
noncomputable def pntR (c an va s : Int) (n l : Nat) (f : Nat → Nat → AV) (U : List Int → Option Int) (last : Int) : LR := ⟨3, .sym .i64 (ptE n (fCl f) c an s), [(1, .cells 3 [.ss 9 2 0 n none, .map 3, .sym .i64 (onOk (ptE n (fCl f) c an s) (if s > last then s else last) last)]), (2, .arr 9 cSh false n (cF (ptC (ptE n (fCl f) c an s) (fCl f) c an va s))), (3, .map 76 U)], 0, [1, 2], [n ≤ l, n ≤ 100000]⟩
noncomputable def henH (c s : Int) (n l : Nat) (f : Nat → Nat → AV) (U : List Int → Option Int) (last : Int) : List (Nat × AO) := [(1, .cells 3 [.ss 9 2 0 n none, .map 3, .sym .i64 last]), (2, .arr 9 cSh false l f), (3, .map 76 U)]
noncomputable def henR (c s : Int) (n l : Nat) (f : Nat → Nat → AV) (U : List Int → Option Int) (last : Int) : LR := ⟨3, .sym .i64 (enE n (fCl f) last c s), [(1, .cells 3 [.ss 9 2 0 n none, .map 3, .sym .i64 (onOk (enE n (fCl f) last c s) s last)]), (2, .arr 9 cSh false n (cF (enC (enE n (fCl f) last c s) (fCl f) c s))), (3, .map 76 (onOk (enE n (fCl f) last c s) (setKey U [(fCl f c.toNat).th] none) U))], 0, [1, 2, 3], [n ≤ l, n ≤ 100000]⟩
noncomputable def rbegH (t o ky va s : Int) (n l : Nat) (g : Nat → Nat → AV) (last : Int) : List (Nat × AO) := [(1, .cells 2 [.ss 9 2 0 n none, .sym .i64 last]), (2, .arr 9 dSh false l g)]
noncomputable def rbegR (t o ky va s : Int) (n l : Nat) (g : Nat → Nat → AV) (last : Int) : LR := ⟨2, .tup [.sym .i64 (onOk (rbE last (srch (rundP t n l g last) n (fun i => Int.ofNat i) (-1)) t o s) (Int.ofNat n) (-1)), .sym .i64 (rbE last (srch (rundP t n l g last) n (fun i => Int.ofNat i) (-1)) t o s)], [(1, .cells 2 [.ss 9 3 0 (onOk (rbE last (srch (rundP t n l g last) n (fun i => Int.ofNat i) (-1)) t o s) (n + 1) n) none, .sym .i64 (onOk (rbE last (srch (rundP t n l g last) n (fun i => Int.ofNat i) (-1)) t o s) s last)]), (3, .arr 9 dSh false (onOk (rbE last (srch (rundP t n l g last) n (fun i => Int.ofNat i) (-1)) t o s) (n + 1) n) (dF (snocC n (fCl g) (mkCl t o ky va s))))], 1, [1, 2], [n ≤ l, n ≤ 100000]⟩
noncomputable def rpntH (c an va s : Int) (n l : Nat) (g : Nat → Nat → AV) (last : Int) : List (Nat × AO) := [(1, .cells 2 [.ss 9 2 0 n none, .sym .i64 last]), (2, .arr 9 dSh false l g)]
noncomputable def rpntR (c an va s : Int) (n l : Nat) (g : Nat → Nat → AV) (last : Int) : LR := ⟨2, .sym .i64 (rpE n (fCl g) c an s), [(1, .cells 2 [.ss 9 2 0 n none, .sym .i64 (onOk (rpE n (fCl g) c an s) (if s > last then s else last) last)]), (2, .arr 9 dSh false n (dF (ptC (rpE n (fCl g) c an s) (fCl g) c an va s)))], 0, [1, 2], [n ≤ l, n ≤ 100000]⟩
noncomputable def rendH (c s : Int) (n l : Nat) (g : Nat → Nat → AV) (last : Int) : List (Nat × AO) := [(1, .cells 2 [.ss 9 2 0 n none, .sym .i64 last]), (2, .arr 9 dSh false l g)]
noncomputable def rendR (c s : Int) (n l : Nat) (g : Nat → Nat → AV) (last : Int) : LR := ⟨2, .sym .i64 (reE n (fCl g) last c s), [(1, .cells 2 [.ss 9 2 0 n none, .sym .i64 (onOk (reE n (fCl g) last c s) s last)]), (2, .arr 9 dSh false n (dF (rnC (reE n (fCl g) last c s) (fCl g) c s)))], 0, [1, 2], [n ≤ l, n ≤ 100000]⟩
end Go.Proofs.Ytnecknppajbcdaa
