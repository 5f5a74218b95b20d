/-
  Begin: definitions, what the memory is.
-/
import Derived.Test.YtmndhjodbnojdaaDoorJSkLaw
import Derived.Test.YtmndhjodbnojdaaDoorJFt
set_option linter.unusedSimpArgs false
set_option linter.unusedVariables false
namespace Go.Proofs.YtmndhjodbnojdaaDoor
open Go.Ev
noncomputable def EAb : Env := envG Tryd.prog ([(13, locSP pshSpec)] ++ memSP)
theorem EAb_ok : EnvOk EAb := envG_ok mgood ⟨locSP_ok pshSpec_ok, memSP_ok⟩
def bgSl (i k : Nat) : Int := IntKind.i64.wrap (IntKind.i64.wrap (Int.ofNat i * 8) + Int.ofNat k)
/-- k slots of segment i are in the list. -/
noncomputable def bgK (S : MS) (i : Nat) : Nat → MS
  | 0 => S
  | k + 1 => psS3 (bgK S i k) (bgSl i k)
/-- i segments are mapped. -/
noncomputable def bgN : Nat → MS
  | 0 => ms0
  | i + 1 => bgK (mStore (bgN i) 6 (Int.ofNat i) 0 1) i 8
theorem psS_u {S : MS} (h : U64 S) (s : Int) : U64 (psS1 S s) ∧ U64 (psS2 S s) ∧ U64 (psS3 S s) := ⟨pshY_u h, pshY_u (pshY_u h), pshY_u (pshY_u (pshY_u h))⟩
theorem psO_ok {S : MS} (h : U64 S) (s : Int) : UoOk (psO1 S s) ∧ UoOk (psO2 S s) := ⟨pshX_ok h (uo0_ok s), pshX_ok (pshY_u h) (pshX_ok h (uo0_ok s))⟩
theorem ppS_u {S : MS} (h : U64 S) : U64 (ppS1 S) ∧ U64 (ppS2 S) ∧ U64 (ppS3 S) := ⟨popY_u h, popY_u (popY_u h), popY_u (popY_u (popY_u h))⟩
theorem ppO_ok {S : MS} (h : U64 S) : PoOk (ppO1 S) ∧ PoOk (ppO2 S) := ⟨popX_ok h po0_ok, popX_ok (popY_u h) (popX_ok h po0_ok)⟩
theorem bgSl_eq {i k : Nat} (hi : i < 32) (hk : k < 8) : bgSl i k = ((8 * i + k : Nat) : Int) := by
  unfold bgSl
  rw [i64w (x := Int.ofNat i * 8) (by simp; omega) (by simp; omega), i64w (by simp; omega) (by simp; omega)]
  show (i : Int) * 8 + (k : Int) = _
  omega
/-- The list of the first n slots, the last one first. -/
def dnL : Nat → List Int
  | 0 => []
  | n + 1 => (n : Int) :: dnL n
theorem dnL_mem : ∀ (n : Nat) (x : Int), x ∈ dnL n ↔ 0 ≤ x ∧ x < n
  | 0, x => ⟨fun h => (by cases h), fun h => (by omega)⟩
  | n + 1, x => by
    rw [dnL, List.mem_cons, dnL_mem n x]
    constructor
    · rintro (rfl | h) <;> omega
    · intro h
      by_cases e : x = n
      · exact .inl e
      · exact .inr (by omega)
theorem SK.seg {S : MS} {l : List Int} {t : Int} (h : SK S l t) (i f v : Int) (hv : 0 ≤ v ∧ v < 18446744073709551616) : SK (mStore S 6 i f v) l t := by
  refine ⟨h.u.store _ _ _ _ hv, ?_, ?_, h.r, h.nd⟩
  · show mget (memPut S.M 6 i f v) _ = _
    rw [mget_put, if_neg (fun e => by have := e.2.1; omega)]; exact h.hd
  · refine links_of h.lk (fun x hx => ?_)
    show mget (memPut S.M 6 i f v) _ = _
    rw [mget_put, if_neg (fun e => by have := e.2.1; omega)]
theorem bgK_sk {S : MS} {i : Nat} (hi : i < 32) (h : SK S (dnL (8 * i)) (8 * i : Nat)) : ∀ k, k ≤ 8 → SK (bgK S i k) (dnL (8 * i + k)) (8 * i + k : Nat)
  | 0, _ => h
  | k + 1, hk => by
    have ih := bgK_sk hi h k (by omega)
    have := ih.push (s := bgSl i k) (by rw [bgSl_eq hi (by omega), dnL_mem]; omega) (by rw [bgSl_eq hi (by omega)]; omega) (by rw [bgSl_eq hi (by omega)]; omega) (by omega) (by omega)
    have e1 : dnL (8 * i + (k + 1)) = bgSl i k :: dnL (8 * i + k) := by rw [bgSl_eq hi (by omega)]; rfl
    have e2 : ((8 * i + (k + 1) : Nat) : Int) = ((8 * i + k : Nat) : Int) + 1 := by omega
    rw [e1, e2]; exact this.1
theorem bgN_sk : ∀ i, i ≤ 32 → SK (bgN i) (dnL (8 * i)) (8 * i : Nat)
  | 0, _ => SK.nil
  | i + 1, hi => bgK_sk (by omega) ((bgN_sk i (by omega)).seg _ _ _ (by decide)) 8 (Nat.le_refl _)
theorem bg_over {i k : Nat} (hi : i < 32) (hk : k < 8) : (psO3 (bgK (mStore (bgN i) 6 (Int.ofNat i) 0 1) i k) (bgSl i k)).ln = 0 := by
  have ih := bgK_sk hi ((bgN_sk i (by omega)).seg (Int.ofNat i) 0 1 (by decide)) k (by omega)
  exact (ih.push (s := bgSl i k) (by rw [bgSl_eq hi (by omega), dnL_mem]; omega) (by rw [bgSl_eq hi (by omega)]; omega) (by rw [bgSl_eq hi (by omega)]; omega) (by omega) (by omega)).2
end Go.Proofs.YtmndhjodbnojdaaDoor
