/-
  Chapter 14: taken: definitions.
-/
import Derived.Test.YtmlfmmnnbdlabaaNSk
set_option linter.unusedSimpArgs false
set_option linter.unusedVariables false
namespace Go.Proofs.Ytmlfmmnnbdlabaa
open Go.Ev

noncomputable def skM (x : MS) : MS := (svN 0 0 0 (-1) x (stC x.M (skAl x.M))).m
theorem skM_M (x : MS) : (skM x).M = x.M := (st_all _).M
theorem tk_lp {mo : Int} (x : MS) (hmo : mo = 200) (hb : 0 ≤ mget x.M (key 5 0 0)) (h0 : mget x.M (key 5 0 0) ≠ 0) : skLP (skAl x.M) mo x (svN 0 0 0 (-1) x (stC x.M (skAl x.M))) := by
  obtain ⟨b, h1, h2, h3, h4⟩ := skAl_eq hb
  have q1 := stC_le x.M (skAl x.M)
  have q2 := stC_mono x.M (Nat.zero_le (skAl x.M))
  have b0 : b ≠ 0 := fun e => h0 (h4.1 e)
  exact sk_lp (skAl x.M) mo (stC x.M (skAl x.M)) x hmo (by omega) (by omega) hb h3 (by omega)
    (fun k hk => (st_pre (st_all k) hk (by omega)).1) (fun k hk => (st_pre (st_all k) hk (by omega)).2) (st_end (st_all _)).1
noncomputable def tknH (st c0 k0 a0 f0 w0 i0 : Int) (d0 : Bool) (M : List Int → Option Int) (mo : Int) : List (Nat × AO) := [(1, .cells 9 (.map 2 :: .sym .i64 st :: [.sym .u8 c0, .sym .u8 k0, .sym .i64 a0, .sym .i64 f0, .sym .u64 w0, .sym .u64 i0, .symb d0])), (2, .map 128 M)]
noncomputable def tknR (st c0 k0 a0 f0 w0 i0 : Int) (d0 : Bool) (M : List Int → Option Int) (mo : Int) : LR := ⟨2, .tup [.agg [.ss 10 3 0 (skAl M) (some (skAl M)), .sym .u64 0], .bool true], [(1, .cells 9 (.map 2 :: .sym .i64 (skM ⟨M, st, ⟨c0, k0, a0, f0, w0, i0, d0⟩⟩).st :: (skM ⟨M, st, ⟨c0, k0, a0, f0, w0, i0, d0⟩⟩).L.l)), (2, .map 128 M), (3, .arr 10 tSh false (skAl M) (stF M))], 1, [1, 2], [mo = 200, 0 ≤ mget M (key 5 0 0), mget M (key 5 0 0) ≠ 0]⟩
noncomputable def tkzH (st c0 k0 a0 f0 w0 i0 : Int) (d0 : Bool) (M : List Int → Option Int) (mo : Int) : List (Nat × AO) := [(1, .cells 9 (.map 2 :: .sym .i64 st :: [.sym .u8 c0, .sym .u8 k0, .sym .i64 a0, .sym .i64 f0, .sym .u64 w0, .sym .u64 i0, .symb d0])), (2, .map 128 M)]
noncomputable def tkzR (st c0 k0 a0 f0 w0 i0 : Int) (d0 : Bool) (M : List Int → Option Int) (mo : Int) : LR := ⟨2, .tup [.agg [.xs 10 3 0 0 (some 0), .sym .u64 0], .bool true], [(1, .cells 9 (.map 2 :: .sym .i64 (mLoad ⟨M, st, ⟨c0, k0, a0, f0, w0, i0, d0⟩⟩ 5 0 0).st :: (mLoad ⟨M, st, ⟨c0, k0, a0, f0, w0, i0, d0⟩⟩ 5 0 0).L.l)), (2, .map 128 M), (3, .arr 10 tSh false 0 (stF M))], 1, [1, 2], [mo = 200, mget M (key 5 0 0) = 0]⟩
end Go.Proofs.Ytmlfmmnnbdlabaa
