/-
  SnapsPlay: the loop that spoils: definitions.
-/
import Derived.Test.YtmlfmmnnbdlabaaNQm
set_option linter.unusedSimpArgs false
set_option linter.unusedVariables false
namespace Go.Proofs.Ytmlfmmnnbdlabaa
open Go.Ev

def sp7 (F : Nat → Nat → AV) (n : Nat) : Nat → Nat → AV := fun i j => if i < n ∧ j = 0 then .sym .u64 7 else F (0 + i) j
theorem sp7_zero (F : Nat → Nat → AV) : sp7 F 0 = fun i j => F (0 + i) j := by
  funext i j; unfold sp7; rw [if_neg (by omega)]
theorem sp7_rows {F : Nat → Nat → AV} (hs : ∀ i j, F i j = .sym .u64 (avInt (F i j))) (n k : Nat) : ∀ i, i < k → rowOb tSh 0 (upd (sp7 F n) (0 + n) 0 [AV.int .u64 7] i) (sp7 F (n + 1) i) := by
  intro i hi
  rw [Nat.zero_add]
  have e : ∀ j, j < 10 → sp7 F (n + 1) i j = .sym .u64 (avInt (upd (sp7 F n) n 0 [AV.int .u64 7] i j)) := fun j hj => by
    unfold upd sp7
    by_cases c : i = n
    · subst c
      rw [if_pos rfl, if_pos (Nat.zero_le _)]
      by_cases cj : j = 0
      · subst cj; rw [if_pos ⟨by omega, rfl⟩]; rfl
      · rw [if_neg (fun q => cj q.2)]
        obtain ⟨q, rfl⟩ : ∃ q, j = q + 1 := ⟨j - 1, by omega⟩
        show F (0 + i) (q + 1) = .sym .u64 (avInt (if i < i ∧ q + 1 = 0 then _ else F (0 + i) (q + 1)))
        rw [if_neg (fun p => Nat.lt_irrefl _ p.1)]
        exact hs _ _
    · rw [if_neg c]
      by_cases c2 : i < n ∧ j = 0
      · rw [if_pos c2, if_pos ⟨by omega, c2.2⟩]; rfl
      · rw [if_neg c2, if_neg (fun q => c2 ⟨by omega, q.2⟩)]
        exact hs _ _
  exact ⟨e 0 (by decide), e 1 (by decide), e 2 (by decide), e 3 (by decide), e 4 (by decide), e 5 (by decide), e 6 (by decide), e 7 (by decide), e 8 (by decide), e 9 (by decide), trivial⟩
noncomputable def spU (n : Nat) (g : Nat → Nat → AV) (m : Nat) (f : Nat → Nat → AV) (al : Nat) (b : Int) (K : Nat) (y : PS) : St := ⟨[.top, .top, .top, .top, .top, .ptr 7 0 0, .ptr 8 0 0, .ptr 9 0 0, .sym .i64 (Int.ofNat (K + 1)), .top, .ptr 17 0 0, .int .i64 0] ++ List.replicate 135 .top, ⟨[(17, .cells 2 [.ss 10 16 0 (al - 0) (some (al - 0)), .sym .u64 0]), (16, .arr 10 tSh false al (fun i j => y.F (0 + i) j)), (15, .arr 10 tSh false 0 (fun _ _ => .top)), (14, .cells 2 [.ss 10 16 0 (al - 0) (some (al - 0)), .sym .u64 0]), (13, .cells 2 [.ss 10 16 0 (al - 0) (some (al - 0)), .sym .u64 0]), (9, .cells 5 [.int .i64 0, .ss 10 11 0 (rdN y.fl y.ta) none, .int .u64 0, .sym .i64 b, .sym .i64 y.fl]), (11, .arr 10 tSh false (rdN y.fl y.ta) y.F), (8, .cells 6 [.nilf, .ss 10 10 0 al (some al), .sym .u64 0, .sym .i64 y.ta, .sym .i64 y.fl, .sym .i64 (Int.ofNat al)]), (10, .arr 10 tSh false al y.F), (7, .cells 2 [.ptr 3 0 0, .ptr 5 0 0]), (1, .arr 4 wSh true n (wdF (bgW g))), (2, .arr 4 wSh true m f), (3, .cells 9 (.map 4 :: lsL y.S.st y.S.L)), (4, .map 128 y.S.M), (5, .cells 9 (.ss 4 12 0 y.R.D.n none :: lsL y.R.st y.R.L)), (12, .arr 4 wSh false y.R.D.n (wdF y.R.D.W))], 8388063432733863541908798598120722827555145242985353523050934130746342853286978546888379611585129402699147128076872681961119219898831319699154351947753, gnm 0, [], [], [17, 13, 14, 6, 5, 4, 3, 9, 10, 11, 8, 7], false⟩⟩
noncomputable def spT (n : Nat) (g : Nat → Nat → AV) (m : Nat) (f : Nat → Nat → AV) (al : Nat) (b : Int) (K : Nat) (y : PS) (i : Nat) : St := ⟨[.top, .top, .top, .top, .top, .top, .ptr 8 0 0, .ptr 9 0 0, .top, .top, .ptr 17 0 0, .sym .i64 (Int.ofNat i)] ++ List.replicate 135 .top, ⟨[(17, .cells 2 [.ss 10 16 0 (al - 0) (some (al - 0)), .sym .u64 0]), (16, .arr 10 tSh false al (sp7 y.F i)), (9, .cells 5 [.int .i64 0, .ss 10 11 0 (rdN y.fl y.ta) none, .int .u64 0, .sym .i64 b, .sym .i64 y.fl]), (11, .arr 10 tSh false (rdN y.fl y.ta) y.F), (8, .cells 6 [.nilf, .ss 10 10 0 al (some al), .sym .u64 0, .sym .i64 y.ta, .sym .i64 y.fl, .sym .i64 (Int.ofNat al)]), (10, .arr 10 tSh false al y.F), (1, .arr 4 wSh true n (wdF (bgW g))), (2, .arr 4 wSh true m f)], 8388063432733863541908798598120722827555145242985353523050934130746342853286978546888379611585129402699147128076872681961119219898831319699154351947753, gnm 0, [], [], [16, 17, 13, 14, 6, 5, 4, 3, 9, 10, 11, 8, 7], false⟩⟩
noncomputable def spX (n : Nat) (g : Nat → Nat → AV) (m : Nat) (f : Nat → Nat → AV) (al : Nat) (b : Int) (K : Nat) (y : PS) : St := ⟨[.top, .top, .top, .top, .top, .top, .ptr 8 0 0, .ptr 9 0 0] ++ List.replicate 139 .top, ⟨[(9, .cells 5 [.int .i64 0, .ss 10 11 0 (rdN y.fl y.ta) none, .int .u64 0, .sym .i64 b, .sym .i64 y.fl]), (11, .arr 10 tSh false (rdN y.fl y.ta) y.F), (8, .cells 6 [.nilf, .ss 10 10 0 al (some al), .sym .u64 0, .sym .i64 y.ta, .sym .i64 y.fl, .sym .i64 (Int.ofNat al)]), (10, .arr 10 tSh false al y.F), (1, .arr 4 wSh true n (wdF (bgW g))), (2, .arr 4 wSh true m f)], 8388063432733863541908798598120722827555145242985353523050934130746342853286978546888379611585129402699147128076872681961119219898831319699154351947753, gnm 0, [], [], [16, 17, 13, 14, 6, 5, 4, 3, 9, 10, 11, 8, 7], false⟩⟩
noncomputable abbrev spL : Code := loopAt Try.prog 7 1
noncomputable def spLP (n : Nat) (g : Nat → Nat → AV) (m : Nat) (f : Nat → Nat → AV) (al : Nat) (b : Int) (K : Nat) (y : PS) : Prop := LoopHolds Try.prog spL (spU n g m f al b K y) (.exit 2) (spX n g m f al b K y)

end Go.Proofs.Ytmlfmmnnbdlabaa
