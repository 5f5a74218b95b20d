/-
  The document's memory: Word, put: definitions.
-/
import Derived.Test.YtmndhjodbnojdaaDoorJMemOps
set_option linter.unusedSimpArgs false
set_option linter.unusedVariables false
namespace Go.Proofs.YtmndhjodbnojdaaDoor
open Go.Ev

noncomputable def EMX : Env := envG Tryd.prog [(169, locSP rmaySpec), (118, locSP mmaySpec)]
theorem EMX_ok : EnvOk EMX := envG_ok mgood ⟨locSP_ok rmaySpec_ok, locSP_ok mmaySpec_ok, trivial⟩

theorem dAdd_rows {D : DM} {g : Nat → Nat → AV} {n : Nat} {kd ad fd v : Int} {l : List AV} (hD : D = dOf n g) (hl : wdOf (fun j => rowsOf 4 l 0 j) = ⟨kd, ad, fd, v⟩) : ∀ i, i < n + 1 → rowOb wSh 0 (fun j => if i < n then g (0 + i) j else rowsOf 4 l (i - n) j) (wdF (dAdd D kd ad fd v).W i) := fun i hi => by
  subst hD
  by_cases h : i < n
  · simp only [h, if_true, Nat.zero_add]
    exact row_wd (by simp [dAdd, h, dOf])
  · have : i = n := by omega
    subst this
    simp only [Nat.lt_irrefl, if_false, Nat.sub_self]
    exact row_wd (by simp [dAdd, dOf]; exact hl)

def rwdP (kd ad fd : Int) (n l : Nat) (g : Nat → Nat → AV) (st c0 k0 a0 f0 w0 i0 : Int) (d0 : Bool) (i : Nat) : Bool := and2 (avInt (g (0 + i) 0) == kd) (and2 (avInt (g (0 + i) 1) == ad) (and2 (avInt (g (0 + i) 2) == fd) true))
noncomputable def rwdH (kd ad fd : Int) (n l : Nat) (g : Nat → Nat → AV) (st c0 k0 a0 f0 w0 i0 : Int) (d0 : Bool) : List (Nat × AO) := [(1, .cells 9 [.ss 4 2 0 n none, .sym .i64 st, .sym .u8 c0, .sym .u8 k0, .sym .i64 a0, .sym .i64 f0, .sym .u64 w0, .sym .u64 i0, .symb d0]), (2, .arr 4 wSh false l g)]
noncomputable def rwdE (kd ad fd : Int) (n l : Nat) (g : Nat → Nat → AV) (st c0 k0 a0 f0 w0 i0 : Int) (d0 : Bool) : List (Nat × AO) := [(3, .cells 3 [.sym .u8 kd, .sym .i64 ad, .sym .i64 fd]), (1, .cells 9 [.ss 4 2 0 n none, .sym .i64 st, .sym .u8 c0, .sym .u8 k0, .sym .i64 a0, .sym .i64 f0, .sym .u64 w0, .sym .u64 i0, .symb d0]), (2, .arr 4 wSh false l g)]
noncomputable def rwdU (kd ad fd : Int) (n l : Nat) (g : Nat → Nat → AV) (st c0 k0 a0 f0 w0 i0 : Int) (d0 : Bool) : St := ⟨[.ptr 1 0 0, .top, .top, .ptr 3 0 0, .int .u64 0, .int .i64 0] ++ List.replicate 27 .top, ⟨rwdE kd ad fd n l g st c0 k0 a0 f0 w0 i0 d0, 4, gnm 0, [], [], [], false⟩⟩
noncomputable def rwdT (kd ad fd : Int) (n l : Nat) (g : Nat → Nat → AV) (st c0 k0 a0 f0 w0 i0 : Int) (d0 : Bool) (i : Nat) : St := ⟨[.ptr 1 0 0, .top, .top, .ptr 3 0 0, .int .u64 0, .sym .i64 (Int.ofNat i)] ++ List.replicate 27 .top, ⟨rwdE kd ad fd n l g st c0 k0 a0 f0 w0 i0 d0, 4, gnm 0, [], [], [], false⟩⟩
noncomputable def rwdQ (kd ad fd : Int) (n l : Nat) (g : Nat → Nat → AV) (st c0 k0 a0 f0 w0 i0 : Int) (d0 : Bool) (k : Nat) : St := ⟨[.top, .top, .top, .top, .sym .u64 (avInt (g (0 + k) 3))] ++ List.replicate 28 .top, ⟨rwdE kd ad fd n l g st c0 k0 a0 f0 w0 i0 d0, 4, gnm 0, [], [], [], false⟩⟩
noncomputable def rwdS (kd ad fd : Int) (n l : Nat) (g : Nat → Nat → AV) (st c0 k0 a0 f0 w0 i0 : Int) (d0 : Bool) : St := ⟨[.top, .top, .top, .top, .int .u64 0] ++ List.replicate 28 .top, ⟨rwdE kd ad fd n l g st c0 k0 a0 f0 w0 i0 d0, 4, gnm 0, [], [], [], false⟩⟩
noncomputable def rwdR (kd ad fd : Int) (n l : Nat) (g : Nat → Nat → AV) (st c0 k0 a0 f0 w0 i0 : Int) (d0 : Bool) : LR := ⟨2, .sym .u64 (dWord (dOf n g) kd ad fd), rwdH kd ad fd n l g st c0 k0 a0 f0 w0 i0 d0, 0, [], [n ≤ l, n ≤ 1000000]⟩
noncomputable abbrev rwdL : Code := loopAt Tryd.prog 141 0
noncomputable def rwdLF (kd ad fd : Int) (n l : Nat) (g : Nat → Nat → AV) (st c0 k0 a0 f0 w0 i0 : Int) (d0 : Bool) (k : Nat) : Prop := LoopHolds Tryd.prog rwdL (rwdU kd ad fd n l g st c0 k0 a0 f0 w0 i0 d0) .ret (rwdQ kd ad fd n l g st c0 k0 a0 f0 w0 i0 d0 k)
noncomputable def rwdLN (kd ad fd : Int) (n l : Nat) (g : Nat → Nat → AV) (st c0 k0 a0 f0 w0 i0 : Int) (d0 : Bool) : Prop := LoopHolds Tryd.prog rwdL (rwdU kd ad fd n l g st c0 k0 a0 f0 w0 i0 d0) (.exit 0) (rwdS kd ad fd n l g st c0 k0 a0 f0 w0 i0 d0)
def rptP (kd ad fd v : Int) (n l : Nat) (g : Nat → Nat → AV) (st c0 k0 a0 f0 w0 i0 : Int) (d0 : Bool) (i : Nat) : Bool := and2 (avInt (g (0 + i) 0) == kd) (and2 (avInt (g (0 + i) 1) == ad) (and2 (avInt (g (0 + i) 2) == fd) true))
noncomputable def rptH (kd ad fd v : Int) (n l : Nat) (g : Nat → Nat → AV) (st c0 k0 a0 f0 w0 i0 : Int) (d0 : Bool) : List (Nat × AO) := [(1, .cells 9 [.ss 4 2 0 n none, .sym .i64 st, .sym .u8 c0, .sym .u8 k0, .sym .i64 a0, .sym .i64 f0, .sym .u64 w0, .sym .u64 i0, .symb d0]), (2, .arr 4 wSh false l g)]
noncomputable def rptE (kd ad fd v : Int) (n l : Nat) (g : Nat → Nat → AV) (st c0 k0 a0 f0 w0 i0 : Int) (d0 : Bool) : List (Nat × AO) := [(3, .cells 3 [.sym .u8 kd, .sym .i64 ad, .sym .i64 fd]), (1, .cells 9 [.ss 4 2 0 n none, .sym .i64 st, .sym .u8 c0, .sym .u8 k0, .sym .i64 a0, .sym .i64 f0, .sym .u64 w0, .sym .u64 i0, .symb d0]), (2, .arr 4 wSh false l g)]
noncomputable def rptK (kd ad fd v : Int) (n l : Nat) (g : Nat → Nat → AV) (st c0 k0 a0 f0 w0 i0 : Int) (d0 : Bool) (k : Nat) : List (Nat × AO) := [(3, .cells 3 [.sym .u8 kd, .sym .i64 ad, .sym .i64 fd]), (1, .cells 9 [.ss 4 2 0 n none, .sym .i64 st, .sym .u8 c0, .sym .u8 k0, .sym .i64 a0, .sym .i64 f0, .sym .u64 w0, .sym .u64 i0, .symb d0]), (2, .arr 4 wSh false n (wdF (dSet (dOf n g) k v).W))]
noncomputable def rptU (kd ad fd v : Int) (n l : Nat) (g : Nat → Nat → AV) (st c0 k0 a0 f0 w0 i0 : Int) (d0 : Bool) : St := ⟨[.ptr 1 0 0, .top, .sym .u64 v, .top, .ptr 3 0 0, .top, .int .i64 0] ++ List.replicate 42 .top, ⟨rptE kd ad fd v n l g st c0 k0 a0 f0 w0 i0 d0, 4, gnm 0, [], [], [], false⟩⟩
noncomputable def rptT (kd ad fd v : Int) (n l : Nat) (g : Nat → Nat → AV) (st c0 k0 a0 f0 w0 i0 : Int) (d0 : Bool) (i : Nat) : St := ⟨[.ptr 1 0 0, .top, .sym .u64 v, .top, .ptr 3 0 0, .top, .sym .i64 (Int.ofNat i)] ++ List.replicate 42 .top, ⟨rptE kd ad fd v n l g st c0 k0 a0 f0 w0 i0 d0, 4, gnm 0, [], [], [], false⟩⟩
noncomputable def rptQ (kd ad fd v : Int) (n l : Nat) (g : Nat → Nat → AV) (st c0 k0 a0 f0 w0 i0 : Int) (d0 : Bool) (k : Nat) : St := ⟨[] ++ List.replicate 49 .top, ⟨rptK kd ad fd v n l g st c0 k0 a0 f0 w0 i0 d0 k, 4, gnm 0, [], [], [2], false⟩⟩
noncomputable def rptS (kd ad fd v : Int) (n l : Nat) (g : Nat → Nat → AV) (st c0 k0 a0 f0 w0 i0 : Int) (d0 : Bool) : St := ⟨[.ptr 1 0 0, .top, .sym .u64 v, .top, .ptr 3 0 0] ++ List.replicate 44 .top, ⟨rptE kd ad fd v n l g st c0 k0 a0 f0 w0 i0 d0, 4, gnm 0, [], [], [], false⟩⟩
noncomputable def rptR (kd ad fd v : Int) (n l : Nat) (g : Nat → Nat → AV) (st c0 k0 a0 f0 w0 i0 : Int) (d0 : Bool) : LR := ⟨2, .tup [], [(1, .cells 9 [.ss 4 3 0 (dPut (dOf n g) kd ad fd v).n none, .sym .i64 st, .sym .u8 c0, .sym .u8 k0, .sym .i64 a0, .sym .i64 f0, .sym .u64 w0, .sym .u64 i0, .symb d0]), (3, .arr 4 wSh false (dPut (dOf n g) kd ad fd v).n (wdF (dPut (dOf n g) kd ad fd v).W))], 1, [1, 2], [n ≤ l, n ≤ 1000000, 0 ≤ kd]⟩
noncomputable abbrev rptL : Code := loopAt Tryd.prog 142 0
noncomputable def rptLF (kd ad fd v : Int) (n l : Nat) (g : Nat → Nat → AV) (st c0 k0 a0 f0 w0 i0 : Int) (d0 : Bool) (k : Nat) : Prop := LoopHolds Tryd.prog rptL (rptU kd ad fd v n l g st c0 k0 a0 f0 w0 i0 d0) .ret (rptQ kd ad fd v n l g st c0 k0 a0 f0 w0 i0 d0 k)
noncomputable def rptLN (kd ad fd v : Int) (n l : Nat) (g : Nat → Nat → AV) (st c0 k0 a0 f0 w0 i0 : Int) (d0 : Bool) : Prop := LoopHolds Tryd.prog rptL (rptU kd ad fd v n l g st c0 k0 a0 f0 w0 i0 d0) (.exit 0) (rptS kd ad fd v n l g st c0 k0 a0 f0 w0 i0 d0)
end Go.Proofs.YtmndhjodbnojdaaDoor
