/-
  The reference's Born: how many entries of a list were born before an era.
-/
import Derived.Test.YtmlfmmnnbdlabaaNrSame
set_option linter.unusedSimpArgs false
set_option linter.unusedVariables false
namespace Go.Proofs.Ytmlfmmnnbdlabaa
open Go.Ev

def cntB (p : Nat → Bool) : Nat → Nat
  | 0 => 0
  | n + 1 => cntB p n + (if p n = true then 1 else 0)

theorem cntB_le (p : Nat → Bool) : ∀ n, cntB p n ≤ n
  | 0 => Nat.le_refl _
  | n + 1 => by have := cntB_le p n; simp only [cntB]; split <;> omega

section
variable (n o l : Nat) (c : Option Nat) (r : Bool) (f : Nat → Nat → AV) (b : Int)
def bornP (i : Nat) : Bool := decide (avInt (f (o + i) 3) < b)
noncomputable def bornH : List (Nat × AO) := [(1, .cells 1 [.ss 6 2 o n c]), (2, .arr 6 eSh r l f)]
noncomputable def bornR : LR := ⟨2, .sym .i64 (Int.ofNat (cntB (bornP o f b) n)), bornH n o l c r f, 0, [], [o + n ≤ l, n ≤ 1000000]⟩
noncomputable def bornT (i : Nat) : St := ⟨[.ptr 1 0 0, .sym .u64 b, .top, .top, .int .i64 0, .sym .i64 (Int.ofNat (cntB (bornP o f b) i)), .sym .i64 (Int.ofNat i)] ++ List.replicate 22 .top, ⟨bornH n o l c r f, 3, gnm 0, [], [], [], false⟩⟩
noncomputable def bornU : St := ⟨[.ptr 1 0 0, .sym .u64 b, .top, .top, .int .i64 0, .int .i64 0, .int .i64 0] ++ List.replicate 22 .top, ⟨bornH n o l c r f, 3, gnm 0, [], [], [], false⟩⟩
noncomputable def bornS : St := ⟨[.top, .top, .top, .top, .top, .sym .i64 (Int.ofNat (cntB (bornP o f b) n)), .top] ++ List.replicate 22 .top, ⟨bornH n o l c r f, 3, gnm 0, [], [], [], false⟩⟩
noncomputable abbrev lcB := loopAt Try.prog 22 0

def bornHO : List Prop := [o = o, n = n, c = c, r = r, l ≤ l, (f = f ∧ plainSh eSh = true) ∨ ∀ i, i < l → rowOb eSh 0 (f i) (f i)]

theorem born_r1 (i : Nat) : roundB EA 2000 lcB (bornU n o l c r f b).hp [] (bornT n o l c r f b i) [.b true, .b true] (bornT n o l c r f b (i + 1)) =
  some (.norm, [0 = 0, 0 = 0, b = b, IntKind.i64.wrap (Int.ofNat (cntB (bornP o f b) i) + 1) = Int.ofNat (cntB (bornP o f b) (i + 1)), IntKind.i64.wrap (Int.ofNat i + 1) = Int.ofNat (i + 1)] ++ bornHO n o l c r f ++
    [bornP o f b i = true, Nat.blt (o + i) l = true, (Nat.blt i n && decide (0 ≤ Int.ofNat i)) = true, decide (Int.ofNat i < Int.ofNat n) = true]) := by kernel_rfl
theorem born_r2 (i : Nat) : roundB EA 2000 lcB (bornU n o l c r f b).hp [] (bornT n o l c r f b i) [.b true, .b false] (bornT n o l c r f b (i + 1)) =
  some (.norm, [0 = 0, 0 = 0, b = b, Int.ofNat (cntB (bornP o f b) i) = Int.ofNat (cntB (bornP o f b) (i + 1)), IntKind.i64.wrap (Int.ofNat i + 1) = Int.ofNat (i + 1)] ++ bornHO n o l c r f ++
    [bornP o f b i = false, Nat.blt (o + i) l = true, (Nat.blt i n && decide (0 ≤ Int.ofNat i)) = true, decide (Int.ofNat i < Int.ofNat n) = true]) := by kernel_rfl
theorem born_r3 (i : Nat) : roundB EA 2000 lcB (bornU n o l c r f b).hp [] (bornT n o l c r f b i) [.b false] (bornS n o l c r f b) =
  some (.exit 0, [Int.ofNat (cntB (bornP o f b) i) = Int.ofNat (cntB (bornP o f b) n)] ++ bornHO n o l c r f ++ [decide (Int.ofNat i < Int.ofNat n) = false]) := by kernel_rfl

noncomputable def bornLp : Prop := LoopHolds Try.prog lcB (bornU n o l c r f b) (.exit 0) (bornS n o l c r f b)
theorem born_c : callB EA 2000 22 [.ptr 1 0 0, .sym .u64 b] (bornH n o l c r f) (bornR n o l c r f b) [] [.lp [0, 1, 4, 5, 6] (.exit 0) (bornS n o l c r f b).tmps (bornH n o l c r f) 3 []] =
  some ([Int.ofNat (cntB (bornP o f b) n) = Int.ofNat (cntB (bornP o f b) n)] ++ bornHO n o l c r f ++ [bornLp n o l c r f b]) := by kernel_rfl

theorem born_lp (hb : o + n ≤ l) (hlim : n ≤ 1000000) : bornLp n o l c r f b := by
  have hob : ∀ p ∈ bornHO n o l c r f, p := ob_cons rfl (ob_cons rfl (ob_cons rfl (ob_cons rfl (ob_cons (Nat.le_refl _) (ob_cons (.inl ⟨rfl, rfl⟩) ob_nil)))))
  refine loop_rule EA_ok (I := Nat) (fun i => bornT n o l c r f b i) (fun i => n - i) (fun i => i ≤ n) ?_ (fun i hi => ?_)
  · exact ⟨0, [], [0 = 0, 0 = 0, b = b, (0 : Int) = Int.ofNat 0, (0 : Int) = Int.ofNat 0] ++ bornHO n o l c r f, Nat.zero_le _, (by kernel_rfl), ob_app (ob_cons rfl (ob_cons rfl (ob_cons rfl (ob_cons rfl (ob_cons rfl ob_nil))))) hob⟩
  · have hc := cntB_le (bornP o f b) i
    by_cases hik : i = n
    · subst hik
      exact round_exit (s0 := bornU i o l c r f b) (born_r3 i o l c r f b i) (by simp) (ob_app (ob_app (ob_cons rfl ob_nil) hob) (ob_cons (decide_eq_false (by simp)) ob_nil))
    · have hi' : i < n := by omega
      have ix : (Nat.blt i n && decide (0 ≤ Int.ofNat i)) = true := by simp [Nat.blt_eq]; omega
      have in1 : Nat.blt (o + i) l = true := by simp [Nat.blt_eq]; omega
      have lt : decide (Int.ofNat i < Int.ofNat n) = true := decide_eq_true (by simp; omega)
      have wi : IntKind.i64.wrap (Int.ofNat i + 1) = Int.ofNat (i + 1) := wrap_nat64 _ (by simp; omega) (by simp; omega)
      cases hp : bornP o f b i with
      | true =>
        have e : cntB (bornP o f b) (i + 1) = cntB (bornP o f b) i + 1 := by simp [cntB, hp]
        exact round_norm (s0 := bornU n o l c r f b) (i + 1) (born_r1 n o l c r f b i) (ob_app (ob_app (ob_cons rfl (ob_cons rfl (ob_cons rfl (ob_cons (by rw [e]; exact wrap_nat64 _ (by simp; omega) (by simp; omega)) (ob_cons wi ob_nil))))) hob)
          (ob_cons hp (ob_cons in1 (ob_cons ix (ob_cons lt ob_nil))))) (by show i + 1 ≤ n; omega) (by show n - (i + 1) < n - i; omega)
      | false =>
        have e : cntB (bornP o f b) (i + 1) = cntB (bornP o f b) i := by simp [cntB, hp]
        exact round_norm (s0 := bornU n o l c r f b) (i + 1) (born_r2 n o l c r f b i) (ob_app (ob_app (ob_cons rfl (ob_cons rfl (ob_cons rfl (ob_cons (by rw [e]) (ob_cons wi ob_nil))))) hob)
          (ob_cons hp (ob_cons in1 (ob_cons ix (ob_cons lt ob_nil))))) (by show i + 1 ≤ n; omega) (by show n - (i + 1) < n - i; omega)

theorem born_loc : LocOk Try.prog 22 [.ptr 1 0 0, .sym .u64 b] (bornH n o l c r f) (bornR n o l c r f b) := by
  refine loc_of_call EA_ok (fun hp => ?_)
  have hb : o + n ≤ l := hp _ (List.mem_cons_self ..)
  have hlim : n ≤ 1000000 := hp _ (List.mem_cons_of_mem _ (List.mem_cons_self ..))
  have hob : ∀ p ∈ bornHO n o l c r f, p := ob_cons rfl (ob_cons rfl (ob_cons rfl (ob_cons rfl (ob_cons (Nat.le_refl _) (ob_cons (.inl ⟨rfl, rfl⟩) ob_nil)))))
  exact ⟨2000, _, [], _, born_c n o l c r f b, ob_app (ob_app (ob_cons rfl ob_nil) hob) (ob_cons (born_lp n o l c r f b hb hlim) ob_nil)⟩
end
end Go.Proofs.Ytmlfmmnnbdlabaa
