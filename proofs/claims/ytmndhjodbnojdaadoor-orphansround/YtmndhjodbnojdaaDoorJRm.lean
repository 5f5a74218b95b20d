/-
  OrphansRound: the main loop.
-/
import Derived.Test.YtmndhjodbnojdaaDoorJRmDef
set_option linter.unusedSimpArgs false
set_option linter.unusedVariables false
namespace Go.Proofs.YtmndhjodbnojdaaDoor
open Go.Ev
theorem rk_n (R : RS) : ∀ i, (rkIt R i).R.D.n ≤ R.D.n + i
  | 0 => Nat.le_refl _
  | i + 1 => by
    have h := rk_n R i
    show (rkYX _ _).D.n ≤ _
    rw [rkYX_eq]
    unfold rkS
    repeat' split
    all_goals first | (show (rkIt R i).R.D.n ≤ _; omega) | skip
    show (dCasM _ _ _ _ _ _).n ≤ _
    unfold dCasM
    split
    · have := (dPut_n (rkIt R i).R.D 4 0 0 (hHead (-1) (IntKind.u64.wrap (hTag (rkIt R i).o.h + 1)))).1
      omega
    · omega
theorem cmp0 {a b : Int} (h : a = b) : ((decide (a = 0) == (b == 0)) == false) = false := by subst h; by_cases c : a = 0 <;> simp [c]
theorem cmp1 {a b : Int} (h : a = b) : (((a == 0) == (b == 0)) == false) = false := by subst h; by_cases c : a = 0 <;> simp [c]
theorem notE {a : Int} (h : ¬ a = 0) : (!a == 0) = true := by simpa using h
theorem notE' {a : Int} (h : a = 0) : (!a == 0) = false := by simp [h]
theorem allB_of {p : Nat → Bool} : ∀ n, (∀ i, i < n → p i = true) → allB p n = true := by
  intro n h
  induction n with
  | zero => rfl
  | succ n ih => simp only [allB]; rw [ih (fun i hi => h i (by omega)), h n (by omega)]; rfl
theorem entB_self (e : Enty) : entB (yR e) (yR e) = true := by simp [entB, and2_eq, yR, avInt, avBool]
theorem sameB_y {n n' : Nat} {E E' : Nat → Enty} (hn : n = n') (h : ∀ i, i < n → E i = E' i) : (!sameB n n' 0 0 (yF E) (yF E')) = false := by
  subst hn
  have : sameB n n 0 0 (yF E) (yF E') = true := by
    unfold sameB
    rw [allB_of n (fun i hi => by
      show entB (yR (E (0 + i))) (yR (E' (0 + i))) = true
      rw [Nat.zero_add, h i hi]; exact entB_self _)]
    simp
  rw [this]; rfl
theorem ru_of {S : MS} {R : RS} (h : Both S R) (u : U64 S) (hn : R.D.n ≤ 100000) : RU R.D.n R.D.n (wdF R.D.W) := ⟨Nat.le_refl _, hn, fun k a f => by
  have e : dWord (dOf R.D.n (wdF R.D.W)) k a f = mget S.M (key k a f) := (h.agr k a f).symm
  rw [e]; exact u _⟩
theorem orma_1 (m : Nat) (f : Nat → Nat → AV) (S : MS) (R : RS) (ii : Nat) : roundB EOm 3000 ormL ((ormU m f S R).hp) [(1841282216941579801882419204465524523121861150899223944084351394554075260477629437121839426933321088397373759821752539942684706807060533592497296769027, Src.nm 1841282216941579801882419204465524523121861150899223944084351394554075260477629437121839426933321088397373759821752539942684706807060533592497296769034), (1841282216941579801882419204465524523121861150899223944084351394554075260477629437121839426933321088397373759821752539942684706807060533592497296769028, Src.nm 1841282216941579801882419204465524523121861150899223944084351394554075260477629437121839426933321088397373759821752539942684706807060533592497296769032), (1841282216941579801882419204465524523121861150899223944084351394554075260477629437121839426933321088397373759821752539942684706807060533592497296769029, Src.nm 1841282216941579801882419204465524523121861150899223944084351394554075260477629437121839426933321088397373759821752539942684706807060533592497296769033)] (ormT m f S R ii) [Hint.b true, Hint.b false, Hint.b false, Hint.b false, Hint.b true, Hint.b true] (ormT m f S R (ii + 1)) =
 some (Ex.norm, [(0 : Nat) = 0,
 (0 : Nat) = 0,
 (0 : Nat) = 0,
 (0 : Nat) = 0,
 IntKind.i64.wrap (Int.ofNat ii + 1) = Int.ofNat (ii + 1),
 (0 : Nat) = 0,
 (0 : Nat) = 0,
 (0 : Nat) = 0,
 (0 : Nat) = 0,
 (0 : Nat) = 0,
 (0 : Nat) = 0,
 (0 : Nat) = 0,
 (0 : Nat) = 0,
 true = true,
 (1 : Nat) ≤ (1 : Nat),
 tabF tab = tabF tab ∧ plainSh (List.map kindOfV tab) = true ∨ ∀ (i : Nat), i < 1 → rowOb (List.map kindOfV tab) 0 (tabF tab i) (tabF tab i),
 (teX (tkIt S ii).n (tkIt S ii).S (tkIt S ii).o).ln = (tkIt S (ii + 1)).o.ln,
 (teX (tkIt S ii).n (tkIt S ii).S (tkIt S ii).o).h = (tkIt S (ii + 1)).o.h,
 (teX (tkIt S ii).n (tkIt S ii).S (tkIt S ii).o).sl = (tkIt S (ii + 1)).o.sl,
 (teX (tkIt S ii).n (tkIt S ii).S (tkIt S ii).o).e.slot = (tkIt S (ii + 1)).o.e.slot,
 (teX (tkIt S ii).n (tkIt S ii).S (tkIt S ii).o).e.gen = (tkIt S (ii + 1)).o.e.gen,
 (teX (tkIt S ii).n (tkIt S ii).S (tkIt S ii).o).e.mark = (tkIt S (ii + 1)).o.e.mark,
 (teX (tkIt S ii).n (tkIt S ii).S (tkIt S ii).o).e.birth = (tkIt S (ii + 1)).o.e.birth,
 (teX (tkIt S ii).n (tkIt S ii).S (tkIt S ii).o).e.epoch = (tkIt S (ii + 1)).o.e.epoch,
 (teX (tkIt S ii).n (tkIt S ii).S (tkIt S ii).o).e.era = (tkIt S (ii + 1)).o.e.era,
 (0 : Nat) = 0,
 teNX (tkIt S ii).n (tkIt S ii).o = (tkIt S (ii + 1)).n,
 (none : Option Nat) = none,
 false = false,
 (tkIt S (ii + 1)).n ≤ teNX (tkIt S ii).n (tkIt S ii).o,
 yF (tkIt S (ii + 1)).E = yF (teEX (tkIt S ii).n (fun i => yOf (yF (tkIt S ii).E i)) (tkIt S ii).S (tkIt S ii).o) ∧ plainSh ySh = true ∨ ∀ (i : Nat), i < (tkIt S (ii + 1)).n → rowOb ySh 0 (yF (teEX (tkIt S ii).n (fun i => yOf (yF (tkIt S ii).E i)) (tkIt S ii).S (tkIt S ii).o) i) (yF (tkIt S (ii + 1)).E i),
 (rkX (rkIt R ii).n (rkIt R ii).R (rkIt R ii).o).ln = (rkIt R (ii + 1)).o.ln,
 (0 : Nat) = 0,
 teNX (rkIt R ii).n (rkIt R ii).o = (rkIt R (ii + 1)).n,
 (none : Option Nat) = none,
 (0 : Int) = 0,
 (rkX (rkIt R ii).n (rkIt R ii).R (rkIt R ii).o).h = (rkIt R (ii + 1)).o.h,
 (rkX (rkIt R ii).n (rkIt R ii).R (rkIt R ii).o).sl = (rkIt R (ii + 1)).o.sl,
 (rkX (rkIt R ii).n (rkIt R ii).R (rkIt R ii).o).e.slot = (rkIt R (ii + 1)).o.e.slot,
 (rkX (rkIt R ii).n (rkIt R ii).R (rkIt R ii).o).e.gen = (rkIt R (ii + 1)).o.e.gen,
 (rkX (rkIt R ii).n (rkIt R ii).R (rkIt R ii).o).e.mark = (rkIt R (ii + 1)).o.e.mark,
 (rkX (rkIt R ii).n (rkIt R ii).R (rkIt R ii).o).e.birth = (rkIt R (ii + 1)).o.e.birth,
 (rkX (rkIt R ii).n (rkIt R ii).R (rkIt R ii).o).e.epoch = (rkIt R (ii + 1)).o.e.epoch,
 (rkX (rkIt R ii).n (rkIt R ii).R (rkIt R ii).o).e.era = (rkIt R (ii + 1)).o.e.era,
 false = false,
 (rkIt R (ii + 1)).n ≤ teNX (rkIt R ii).n (rkIt R ii).o,
 yF (rkIt R (ii + 1)).E = yF (rkEX (rkIt R ii).n (fun i => yOf (yF (rkIt R ii).E i)) (rkIt R ii).R (rkIt R ii).o) ∧ plainSh ySh = true ∨ ∀ (i : Nat), i < (rkIt R (ii + 1)).n → rowOb ySh 0 (yF (rkEX (rkIt R ii).n (fun i => yOf (yF (rkIt R ii).E i)) (rkIt R ii).R (rkIt R ii).o) i) (yF (rkIt R (ii + 1)).E i),
 (teY (tkIt S ii).S (tkIt S ii).o).st = (tkIt S (ii + 1)).S.st,
 (teY (tkIt S ii).S (tkIt S ii).o).L.c = (tkIt S (ii + 1)).S.L.c,
 (teY (tkIt S ii).S (tkIt S ii).o).L.k = (tkIt S (ii + 1)).S.L.k,
 (teY (tkIt S ii).S (tkIt S ii).o).L.a = (tkIt S (ii + 1)).S.L.a,
 (teY (tkIt S ii).S (tkIt S ii).o).L.f = (tkIt S (ii + 1)).S.L.f,
 (teY (tkIt S ii).S (tkIt S ii).o).L.w = (tkIt S (ii + 1)).S.L.w,
 (teY (tkIt S ii).S (tkIt S ii).o).L.i = (tkIt S (ii + 1)).S.L.i,
 (teY (tkIt S ii).S (tkIt S ii).o).L.d = (tkIt S (ii + 1)).S.L.d,
 ∀ (k : List Int), (teY (tkIt S ii).S (tkIt S ii).o).M k = (tkIt S (ii + 1)).S.M k,
 (0 : Nat) = 0,
 (rkYX (rkIt R ii).R (rkIt R ii).o).D.n = (rkIt R (ii + 1)).R.D.n,
 (none : Option Nat) = none,
 (rkYX (rkIt R ii).R (rkIt R ii).o).st = (rkIt R (ii + 1)).R.st,
 (rkYX (rkIt R ii).R (rkIt R ii).o).L.c = (rkIt R (ii + 1)).R.L.c,
 (rkYX (rkIt R ii).R (rkIt R ii).o).L.k = (rkIt R (ii + 1)).R.L.k,
 (rkYX (rkIt R ii).R (rkIt R ii).o).L.a = (rkIt R (ii + 1)).R.L.a,
 (rkYX (rkIt R ii).R (rkIt R ii).o).L.f = (rkIt R (ii + 1)).R.L.f,
 (rkYX (rkIt R ii).R (rkIt R ii).o).L.w = (rkIt R (ii + 1)).R.L.w,
 (rkYX (rkIt R ii).R (rkIt R ii).o).L.i = (rkIt R (ii + 1)).R.L.i,
 (rkYX (rkIt R ii).R (rkIt R ii).o).L.d = (rkIt R (ii + 1)).R.L.d,
 false = false,
 (rkIt R (ii + 1)).R.D.n ≤ (rkYX (rkIt R ii).R (rkIt R ii).o).D.n,
 wdF (rkIt R (ii + 1)).R.D.W = wdF (rkYX (rkIt R ii).R (rkIt R ii).o).D.W ∧ plainSh wSh = true ∨ ∀ (i : Nat), i < (rkIt R (ii + 1)).R.D.n → rowOb wSh 0 (wdF (rkYX (rkIt R ii).R (rkIt R ii).o).D.W i) (wdF (rkIt R (ii + 1)).R.D.W i),
 Both (teY (tkIt S ii).S (tkIt S ii).o) (rkYX (rkIt R ii).R (rkIt R ii).o),
 (!(rkX (rkIt R ii).n (rkIt R ii).R (rkIt R ii).o).ln == 0) = true,
 (!(teX (tkIt S ii).n (tkIt S ii).S (tkIt S ii).o).ln == 0) = true,
 ((((teX (tkIt S ii).n (tkIt S ii).S (tkIt S ii).o).ln == 0) == ((rkX (rkIt R ii).n (rkIt R ii).R (rkIt R ii).o).ln == 0)) == false) = false,
 ((decide ((teX (tkIt S ii).n (tkIt S ii).S (tkIt S ii).o).ln = 0) == ((rkX (rkIt R ii).n (rkIt R ii).R (rkIt R ii).o).ln == 0)) == false) = false,
 tabF tab = tabF tab,
 U64 (tkIt S ii).S,
 TLn (tkIt S ii).o.ln,
 R64 (tkIt S ii).o.h,
 (tkIt S ii).n ≤ (tkIt S ii).n ∧ (tkIt S ii).n ≤ 1000000,
 TLn (rkIt R ii).o.ln,
 (rkIt R ii).n ≤ (rkIt R ii).n ∧ (rkIt R ii).n ≤ 1000000,
 R64 (rkIt R ii).o.h,
 RU (rkIt R ii).R.D.n (rkIt R ii).R.D.n (wdF (rkIt R ii).R.D.W),
 ((rkIt R ii).o.ln == 0) = false,
 decide (Int.ofNat ii < 1282) = true]) := by kernel_rfl
theorem ormb_1 (m : Nat) (f : Nat → Nat → AV) (S : MS) (R : RS) (ii : Nat) : roundB EOm 3000 ormL ((ormU m f S R).hp) [(1841282216941579801882419204465524523121861150899223944084351394554075260477629437121839426933321088397373759821752539942684706807060533592497296769027, Src.nm 1841282216941579801882419204465524523121861150899223944084351394554075260477629437121839426933321088397373759821752539942684706807060533592497296769034), (1841282216941579801882419204465524523121861150899223944084351394554075260477629437121839426933321088397373759821752539942684706807060533592497296769028, Src.nm 1841282216941579801882419204465524523121861150899223944084351394554075260477629437121839426933321088397373759821752539942684706807060533592497296769032), (1841282216941579801882419204465524523121861150899223944084351394554075260477629437121839426933321088397373759821752539942684706807060533592497296769029, Src.nm 1841282216941579801882419204465524523121861150899223944084351394554075260477629437121839426933321088397373759821752539942684706807060533592497296769033)] (ormT m f S R ii) [Hint.b true, Hint.b false, Hint.b false, Hint.b false, Hint.b false, Hint.b false, Hint.b false, Hint.b false, Hint.node [(2, [Hint.b false, Hint.b false])], Hint.b false] (ormT m f S R (ii + 1)) =
 some (Ex.norm, [(0 : Nat) = 0,
 (0 : Nat) = 0,
 (0 : Nat) = 0,
 (0 : Nat) = 0,
 IntKind.i64.wrap (Int.ofNat ii + 1) = Int.ofNat (ii + 1),
 (0 : Nat) = 0,
 (0 : Nat) = 0,
 (0 : Nat) = 0,
 (0 : Nat) = 0,
 (0 : Nat) = 0,
 (0 : Nat) = 0,
 (0 : Nat) = 0,
 (0 : Nat) = 0,
 true = true,
 (1 : Nat) ≤ (1 : Nat),
 tabF tab = tabF tab ∧ plainSh (List.map kindOfV tab) = true ∨ ∀ (i : Nat), i < 1 → rowOb (List.map kindOfV tab) 0 (tabF tab i) (tabF tab i),
 (teX (tkIt S ii).n (tkIt S ii).S (tkIt S ii).o).ln = (tkIt S (ii + 1)).o.ln,
 (teX (tkIt S ii).n (tkIt S ii).S (tkIt S ii).o).h = (tkIt S (ii + 1)).o.h,
 (teX (tkIt S ii).n (tkIt S ii).S (tkIt S ii).o).sl = (tkIt S (ii + 1)).o.sl,
 (teX (tkIt S ii).n (tkIt S ii).S (tkIt S ii).o).e.slot = (tkIt S (ii + 1)).o.e.slot,
 (teX (tkIt S ii).n (tkIt S ii).S (tkIt S ii).o).e.gen = (tkIt S (ii + 1)).o.e.gen,
 (teX (tkIt S ii).n (tkIt S ii).S (tkIt S ii).o).e.mark = (tkIt S (ii + 1)).o.e.mark,
 (teX (tkIt S ii).n (tkIt S ii).S (tkIt S ii).o).e.birth = (tkIt S (ii + 1)).o.e.birth,
 (teX (tkIt S ii).n (tkIt S ii).S (tkIt S ii).o).e.epoch = (tkIt S (ii + 1)).o.e.epoch,
 (teX (tkIt S ii).n (tkIt S ii).S (tkIt S ii).o).e.era = (tkIt S (ii + 1)).o.e.era,
 (0 : Nat) = 0,
 teNX (tkIt S ii).n (tkIt S ii).o = (tkIt S (ii + 1)).n,
 (none : Option Nat) = none,
 false = false,
 (tkIt S (ii + 1)).n ≤ teNX (tkIt S ii).n (tkIt S ii).o,
 yF (tkIt S (ii + 1)).E = yF (teEX (tkIt S ii).n (fun i => yOf (yF (tkIt S ii).E i)) (tkIt S ii).S (tkIt S ii).o) ∧ plainSh ySh = true ∨ ∀ (i : Nat), i < (tkIt S (ii + 1)).n → rowOb ySh 0 (yF (teEX (tkIt S ii).n (fun i => yOf (yF (tkIt S ii).E i)) (tkIt S ii).S (tkIt S ii).o) i) (yF (tkIt S (ii + 1)).E i),
 (rkX (rkIt R ii).n (rkIt R ii).R (rkIt R ii).o).ln = (rkIt R (ii + 1)).o.ln,
 (0 : Nat) = 0,
 teNX (rkIt R ii).n (rkIt R ii).o = (rkIt R (ii + 1)).n,
 (none : Option Nat) = none,
 (0 : Int) = 0,
 (rkX (rkIt R ii).n (rkIt R ii).R (rkIt R ii).o).h = (rkIt R (ii + 1)).o.h,
 (rkX (rkIt R ii).n (rkIt R ii).R (rkIt R ii).o).sl = (rkIt R (ii + 1)).o.sl,
 (rkX (rkIt R ii).n (rkIt R ii).R (rkIt R ii).o).e.slot = (rkIt R (ii + 1)).o.e.slot,
 (rkX (rkIt R ii).n (rkIt R ii).R (rkIt R ii).o).e.gen = (rkIt R (ii + 1)).o.e.gen,
 (rkX (rkIt R ii).n (rkIt R ii).R (rkIt R ii).o).e.mark = (rkIt R (ii + 1)).o.e.mark,
 (rkX (rkIt R ii).n (rkIt R ii).R (rkIt R ii).o).e.birth = (rkIt R (ii + 1)).o.e.birth,
 (rkX (rkIt R ii).n (rkIt R ii).R (rkIt R ii).o).e.epoch = (rkIt R (ii + 1)).o.e.epoch,
 (rkX (rkIt R ii).n (rkIt R ii).R (rkIt R ii).o).e.era = (rkIt R (ii + 1)).o.e.era,
 false = false,
 (rkIt R (ii + 1)).n ≤ teNX (rkIt R ii).n (rkIt R ii).o,
 yF (rkIt R (ii + 1)).E = yF (rkEX (rkIt R ii).n (fun i => yOf (yF (rkIt R ii).E i)) (rkIt R ii).R (rkIt R ii).o) ∧ plainSh eSh = true ∨ ∀ (i : Nat), i < (rkIt R (ii + 1)).n → rowOb eSh 0 (yF (rkEX (rkIt R ii).n (fun i => yOf (yF (rkIt R ii).E i)) (rkIt R ii).R (rkIt R ii).o) i) (yF (rkIt R (ii + 1)).E i),
 (teY (tkIt S ii).S (tkIt S ii).o).st = (tkIt S (ii + 1)).S.st,
 (teY (tkIt S ii).S (tkIt S ii).o).L.c = (tkIt S (ii + 1)).S.L.c,
 (teY (tkIt S ii).S (tkIt S ii).o).L.k = (tkIt S (ii + 1)).S.L.k,
 (teY (tkIt S ii).S (tkIt S ii).o).L.a = (tkIt S (ii + 1)).S.L.a,
 (teY (tkIt S ii).S (tkIt S ii).o).L.f = (tkIt S (ii + 1)).S.L.f,
 (teY (tkIt S ii).S (tkIt S ii).o).L.w = (tkIt S (ii + 1)).S.L.w,
 (teY (tkIt S ii).S (tkIt S ii).o).L.i = (tkIt S (ii + 1)).S.L.i,
 (teY (tkIt S ii).S (tkIt S ii).o).L.d = (tkIt S (ii + 1)).S.L.d,
 ∀ (k : List Int), (teY (tkIt S ii).S (tkIt S ii).o).M k = (tkIt S (ii + 1)).S.M k,
 (0 : Nat) = 0,
 (rkYX (rkIt R ii).R (rkIt R ii).o).D.n = (rkIt R (ii + 1)).R.D.n,
 (none : Option Nat) = none,
 (rkYX (rkIt R ii).R (rkIt R ii).o).st = (rkIt R (ii + 1)).R.st,
 (rkYX (rkIt R ii).R (rkIt R ii).o).L.c = (rkIt R (ii + 1)).R.L.c,
 (rkYX (rkIt R ii).R (rkIt R ii).o).L.k = (rkIt R (ii + 1)).R.L.k,
 (rkYX (rkIt R ii).R (rkIt R ii).o).L.a = (rkIt R (ii + 1)).R.L.a,
 (rkYX (rkIt R ii).R (rkIt R ii).o).L.f = (rkIt R (ii + 1)).R.L.f,
 (rkYX (rkIt R ii).R (rkIt R ii).o).L.w = (rkIt R (ii + 1)).R.L.w,
 (rkYX (rkIt R ii).R (rkIt R ii).o).L.i = (rkIt R (ii + 1)).R.L.i,
 (rkYX (rkIt R ii).R (rkIt R ii).o).L.d = (rkIt R (ii + 1)).R.L.d,
 false = false,
 (rkIt R (ii + 1)).R.D.n ≤ (rkYX (rkIt R ii).R (rkIt R ii).o).D.n,
 wdF (rkIt R (ii + 1)).R.D.W = wdF (rkYX (rkIt R ii).R (rkIt R ii).o).D.W ∧ plainSh wSh = true ∨ ∀ (i : Nat), i < (rkIt R (ii + 1)).R.D.n → rowOb wSh 0 (wdF (rkYX (rkIt R ii).R (rkIt R ii).o).D.W i) (wdF (rkIt R (ii + 1)).R.D.W i),
 Both (teY (tkIt S ii).S (tkIt S ii).o) (rkYX (rkIt R ii).R (rkIt R ii).o),
 (!sameB (teNX (tkIt S ii).n (tkIt S ii).o - 0) (teNX (rkIt R ii).n (rkIt R ii).o) 0 0 (fun i j => yF (teEX (tkIt S ii).n (fun i => yOf (yF (tkIt S ii).E i)) (tkIt S ii).S (tkIt S ii).o) (0 + i) j) (yF (rkEX (rkIt R ii).n (fun i => yOf (yF (rkIt R ii).E i)) (rkIt R ii).R (rkIt R ii).o))) = false,
 0 + (teNX (tkIt S ii).n (tkIt S ii).o - 0) ≤ teNX (tkIt S ii).n (tkIt S ii).o,
 0 + teNX (rkIt R ii).n (rkIt R ii).o ≤ teNX (rkIt R ii).n (rkIt R ii).o,
 teNX (tkIt S ii).n (tkIt S ii).o - 0 ≤ 1000000,
 (Nat.blt 0 (capOr (some (teNX (tkIt S ii).n (tkIt S ii).o)) (teNX (tkIt S ii).n (tkIt S ii).o)) || Nat.beq 0 0) = true,
 ((teNX (tkIt S ii).n (tkIt S ii).o).ble (capOr (some (teNX (tkIt S ii).n (tkIt S ii).o)) (teNX (tkIt S ii).n (tkIt S ii).o)) && decide (0 ≤ Int.ofNat (teNX (tkIt S ii).n (tkIt S ii).o))) = true,
 ((teNX (tkIt S ii).n (tkIt S ii).o).ble (capOr none (teNX (tkIt S ii).n (tkIt S ii).o)) && decide (0 ≤ Int.ofNat (teNX (tkIt S ii).n (tkIt S ii).o))) = true,
 (teNX (tkIt S ii).n (tkIt S ii).o).beq 0 = false,
 (teNX (tkIt S ii).n (tkIt S ii).o * 40).ble 70368744177664 = true,
 (0 + teNX (tkIt S ii).n (tkIt S ii).o).ble (teNX (tkIt S ii).n (tkIt S ii).o) = true,
 Nat.blt 0 (teNX (tkIt S ii).n (tkIt S ii).o) = true,
 (!(teX (tkIt S ii).n (tkIt S ii).S (tkIt S ii).o).ln == 0) = false,
 teNX (tkIt S ii).n (tkIt S ii).o - 0 ≤ teNX (tkIt S ii).n (tkIt S ii).o,
 teNX (tkIt S ii).n (tkIt S ii).o - 0 ≤ 1000000,
 teNX (tkIt S ii).n (tkIt S ii).o - 0 ≤ teNX (tkIt S ii).n (tkIt S ii).o - 0,
 (!sameB (teNX (tkIt S ii).n (tkIt S ii).o - 0) (teNX (rkIt R ii).n (rkIt R ii).o) 0 0 (fun i j => yF (teEX (tkIt S ii).n (fun i => yOf (yF (tkIt S ii).E i)) (tkIt S ii).S (tkIt S ii).o) (0 + i) j) (yF (rkEX (rkIt R ii).n (fun i => yOf (yF (rkIt R ii).E i)) (rkIt R ii).R (rkIt R ii).o))) = false,
 0 + (teNX (tkIt S ii).n (tkIt S ii).o - 0) ≤ teNX (tkIt S ii).n (tkIt S ii).o,
 0 + teNX (rkIt R ii).n (rkIt R ii).o ≤ teNX (rkIt R ii).n (rkIt R ii).o,
 teNX (tkIt S ii).n (tkIt S ii).o - 0 ≤ 1000000,
 (!(rkX (rkIt R ii).n (rkIt R ii).R (rkIt R ii).o).ln == 0) = false,
 (Nat.blt 0 (capOr (some (teNX (tkIt S ii).n (tkIt S ii).o)) (teNX (tkIt S ii).n (tkIt S ii).o)) || Nat.beq 0 0) = true,
 ((teNX (tkIt S ii).n (tkIt S ii).o).ble (capOr (some (teNX (tkIt S ii).n (tkIt S ii).o)) (teNX (tkIt S ii).n (tkIt S ii).o)) && decide (0 ≤ Int.ofNat (teNX (tkIt S ii).n (tkIt S ii).o))) = true,
 ((teNX (tkIt S ii).n (tkIt S ii).o).ble (capOr none (teNX (tkIt S ii).n (tkIt S ii).o)) && decide (0 ≤ Int.ofNat (teNX (tkIt S ii).n (tkIt S ii).o))) = true,
 (teNX (tkIt S ii).n (tkIt S ii).o).beq 0 = false,
 (teNX (tkIt S ii).n (tkIt S ii).o * 40).ble 70368744177664 = true,
 (0 + teNX (tkIt S ii).n (tkIt S ii).o).ble (teNX (tkIt S ii).n (tkIt S ii).o) = true,
 Nat.blt 0 (teNX (tkIt S ii).n (tkIt S ii).o) = true,
 (!(teX (tkIt S ii).n (tkIt S ii).S (tkIt S ii).o).ln == 0) = false,
 ((((teX (tkIt S ii).n (tkIt S ii).S (tkIt S ii).o).ln == 0) == ((rkX (rkIt R ii).n (rkIt R ii).R (rkIt R ii).o).ln == 0)) == false) = false,
 ((decide ((teX (tkIt S ii).n (tkIt S ii).S (tkIt S ii).o).ln = 0) == ((rkX (rkIt R ii).n (rkIt R ii).R (rkIt R ii).o).ln == 0)) == false) = false,
 tabF tab = tabF tab,
 U64 (tkIt S ii).S,
 TLn (tkIt S ii).o.ln,
 R64 (tkIt S ii).o.h,
 (tkIt S ii).n ≤ (tkIt S ii).n ∧ (tkIt S ii).n ≤ 1000000,
 TLn (rkIt R ii).o.ln,
 (rkIt R ii).n ≤ (rkIt R ii).n ∧ (rkIt R ii).n ≤ 1000000,
 R64 (rkIt R ii).o.h,
 RU (rkIt R ii).R.D.n (rkIt R ii).R.D.n (wdF (rkIt R ii).R.D.W),
 ((rkIt R ii).o.ln == 0) = false,
 decide (Int.ofNat ii < 1282) = true]) := by kernel_rfl
theorem ormx_1 (m : Nat) (f : Nat → Nat → AV) (S : MS) (R : RS) (ii : Nat) : roundB EOm 3000 ormL ((ormU m f S R).hp) [(1841282216941579801882419204465524523121861150899223944084351394554075260477629437121839426933321088397373759821752539942684706807060533592497296769027, Src.nm 1841282216941579801882419204465524523121861150899223944084351394554075260477629437121839426933321088397373759821752539942684706807060533592497296769027), (1841282216941579801882419204465524523121861150899223944084351394554075260477629437121839426933321088397373759821752539942684706807060533592497296769028, Src.nm 1841282216941579801882419204465524523121861150899223944084351394554075260477629437121839426933321088397373759821752539942684706807060533592497296769028), (1841282216941579801882419204465524523121861150899223944084351394554075260477629437121839426933321088397373759821752539942684706807060533592497296769029, Src.nm 1841282216941579801882419204465524523121861150899223944084351394554075260477629437121839426933321088397373759821752539942684706807060533592497296769029)] (ormT m f S R ii) [Hint.b false] (ormX m f S R ii) =
 some (Ex.exit 2, [(0 : Nat) = 0,
 (0 : Nat) = 0,
 (0 : Nat) = 0,
 (0 : Nat) = 0,
 (0 : Nat) = 0,
 (0 : Nat) = 0,
 (0 : Nat) = 0,
 (0 : Nat) = 0,
 (0 : Nat) = 0,
 (0 : Nat) = 0,
 (0 : Nat) = 0,
 (0 : Nat) = 0,
 true = true,
 (1 : Nat) ≤ (1 : Nat),
 tabF tab = tabF tab ∧ plainSh (List.map kindOfV tab) = true ∨ ∀ (i : Nat), i < 1 → rowOb (List.map kindOfV tab) 0 (tabF tab i) (tabF tab i),
 (tkIt S ii).o.ln = (tkIt S ii).o.ln,
 (tkIt S ii).o.h = (tkIt S ii).o.h,
 (tkIt S ii).o.sl = (tkIt S ii).o.sl,
 (tkIt S ii).o.e.slot = (tkIt S ii).o.e.slot,
 (tkIt S ii).o.e.gen = (tkIt S ii).o.e.gen,
 (tkIt S ii).o.e.mark = (tkIt S ii).o.e.mark,
 (tkIt S ii).o.e.birth = (tkIt S ii).o.e.birth,
 (tkIt S ii).o.e.epoch = (tkIt S ii).o.e.epoch,
 (tkIt S ii).o.e.era = (tkIt S ii).o.e.era,
 (0 : Nat) = 0,
 (tkIt S ii).n = (tkIt S ii).n,
 (none : Option Nat) = none,
 false = false,
 (tkIt S ii).n ≤ (tkIt S ii).n,
 yF (tkIt S ii).E = yF (tkIt S ii).E ∧ plainSh ySh = true ∨ ∀ (i : Nat), i < (tkIt S ii).n → rowOb ySh 0 (yF (tkIt S ii).E i) (yF (tkIt S ii).E i),
 (rkIt R ii).o.ln = (rkIt R ii).o.ln,
 (0 : Nat) = 0,
 (rkIt R ii).n = (rkIt R ii).n,
 (none : Option Nat) = none,
 (0 : Int) = 0,
 (rkIt R ii).o.h = (rkIt R ii).o.h,
 (rkIt R ii).o.sl = (rkIt R ii).o.sl,
 (rkIt R ii).o.e.slot = (rkIt R ii).o.e.slot,
 (rkIt R ii).o.e.gen = (rkIt R ii).o.e.gen,
 (rkIt R ii).o.e.mark = (rkIt R ii).o.e.mark,
 (rkIt R ii).o.e.birth = (rkIt R ii).o.e.birth,
 (rkIt R ii).o.e.epoch = (rkIt R ii).o.e.epoch,
 (rkIt R ii).o.e.era = (rkIt R ii).o.e.era,
 false = false,
 (rkIt R ii).n ≤ (rkIt R ii).n,
 yF (rkIt R ii).E = yF (rkIt R ii).E ∧ plainSh ySh = true ∨ ∀ (i : Nat), i < (rkIt R ii).n → rowOb ySh 0 (yF (rkIt R ii).E i) (yF (rkIt R ii).E i),
 (tkIt S ii).S.st = (tkIt S ii).S.st,
 (tkIt S ii).S.L.c = (tkIt S ii).S.L.c,
 (tkIt S ii).S.L.k = (tkIt S ii).S.L.k,
 (tkIt S ii).S.L.a = (tkIt S ii).S.L.a,
 (tkIt S ii).S.L.f = (tkIt S ii).S.L.f,
 (tkIt S ii).S.L.w = (tkIt S ii).S.L.w,
 (tkIt S ii).S.L.i = (tkIt S ii).S.L.i,
 (tkIt S ii).S.L.d = (tkIt S ii).S.L.d,
 ∀ (k : List Int), (tkIt S ii).S.M k = (tkIt S ii).S.M k,
 (0 : Nat) = 0,
 (rkIt R ii).R.D.n = (rkIt R ii).R.D.n,
 (none : Option Nat) = none,
 (rkIt R ii).R.st = (rkIt R ii).R.st,
 (rkIt R ii).R.L.c = (rkIt R ii).R.L.c,
 (rkIt R ii).R.L.k = (rkIt R ii).R.L.k,
 (rkIt R ii).R.L.a = (rkIt R ii).R.L.a,
 (rkIt R ii).R.L.f = (rkIt R ii).R.L.f,
 (rkIt R ii).R.L.w = (rkIt R ii).R.L.w,
 (rkIt R ii).R.L.i = (rkIt R ii).R.L.i,
 (rkIt R ii).R.L.d = (rkIt R ii).R.L.d,
 false = false,
 (rkIt R ii).R.D.n ≤ (rkIt R ii).R.D.n,
 wdF (rkIt R ii).R.D.W = wdF (rkIt R ii).R.D.W ∧ plainSh wSh = true ∨ ∀ (i : Nat), i < (rkIt R ii).R.D.n → rowOb wSh 0 (wdF (rkIt R ii).R.D.W i) (wdF (rkIt R ii).R.D.W i),
 decide (Int.ofNat ii < 1282) = false]) := by kernel_rfl
theorem ormi_1 (m : Nat) (f : Nat → Nat → AV) (S : MS) (R : RS) : castSt ((ormU m f S R).hp) [(1841282216941579801882419204465524523121861150899223944084351394554075260477629437121839426933321088397373759821752539942684706807060533592497296769027, Src.nil 6), (1841282216941579801882419204465524523121861150899223944084351394554075260477629437121839426933321088397373759821752539942684706807060533592497296769028, Src.nil 6), (1841282216941579801882419204465524523121861150899223944084351394554075260477629437121839426933321088397373759821752539942684706807060533592497296769029, Src.nm 1636695303948070935006594848413799576108321023021532394741645684048066898202337277441635046162952078575443342063780035504608628272942696526664263794689)] (ormU m f S R) (ormT m f S R 0) =
 some ([(0 : Nat) = 0,
 (0 : Nat) = 0,
 (0 : Nat) = 0,
 (0 : Nat) = 0,
 (0 : Int) = 0,
 (0 : Nat) = 0,
 (0 : Nat) = 0,
 (0 : Nat) = 0,
 (0 : Nat) = 0,
 (0 : Nat) = 0,
 (0 : Nat) = 0,
 (0 : Nat) = 0,
 (0 : Nat) = 0,
 true = true,
 (1 : Nat) ≤ (1 : Nat),
 tabF tab = tabF tab ∧ plainSh (List.map kindOfV tab) = true ∨ ∀ (i : Nat), i < 1 → rowOb (List.map kindOfV tab) 0 (tabF tab i) (tabF tab i),
 (1 : Int) = 1,
 (0 : Int) = 0,
 (0 : Int) = 0,
 (0 : Int) = 0,
 (0 : Int) = 0,
 false = (tkIt S 0).o.e.mark,
 (0 : Int) = 0,
 (0 : Int) = 0,
 (0 : Int) = 0,
 (0 : Nat) = 0,
 (0 : Nat) = 0,
 (none : Option Nat) = none,
 (0 : Nat) = 0,
 (1 : Int) = 1,
 (0 : Nat) = 0,
 (0 : Nat) = 0,
 (none : Option Nat) = none,
 (0 : Int) = 0,
 (0 : Int) = 0,
 (0 : Int) = 0,
 (0 : Int) = 0,
 (0 : Int) = 0,
 false = (rkIt R 0).o.e.mark,
 (0 : Int) = 0,
 (0 : Int) = 0,
 (0 : Int) = 0,
 (0 : Nat) = 0,
 S.st = (tkIt S 0).S.st,
 S.L.c = (tkIt S 0).S.L.c,
 S.L.k = (tkIt S 0).S.L.k,
 S.L.a = (tkIt S 0).S.L.a,
 S.L.f = (tkIt S 0).S.L.f,
 S.L.w = (tkIt S 0).S.L.w,
 S.L.i = (tkIt S 0).S.L.i,
 S.L.d = (tkIt S 0).S.L.d,
 ∀ (k : List Int), S.M k = (tkIt S 0).S.M k,
 (0 : Nat) = 0,
 R.D.n = (rkIt R 0).R.D.n,
 (none : Option Nat) = none,
 R.st = (rkIt R 0).R.st,
 R.L.c = (rkIt R 0).R.L.c,
 R.L.k = (rkIt R 0).R.L.k,
 R.L.a = (rkIt R 0).R.L.a,
 R.L.f = (rkIt R 0).R.L.f,
 R.L.w = (rkIt R 0).R.L.w,
 R.L.i = (rkIt R 0).R.L.i,
 R.L.d = (rkIt R 0).R.L.d,
 false = false,
 (rkIt R 0).R.D.n ≤ R.D.n,
 wdF (rkIt R 0).R.D.W = wdF R.D.W ∧ plainSh wSh = true ∨ ∀ (i : Nat), i < (rkIt R 0).R.D.n → rowOb wSh 0 (wdF R.D.W i) (wdF (rkIt R 0).R.D.W i)]) := by kernel_rfl
theorem orm_lp (m : Nat) (f : Nat → Nat → AV) (S : MS) (R : RS) (hu : U64 S) (hb : Both S R) (hn : R.D.n ≤ 1000) (he : RgEnd S) : ormLP m f S R := by
  refine loop_rule EOm_ok (I := Nat) (fun i => ormT m f S R i) (fun i => 1282 - i) (fun i => i ≤ 1282) ?_ (fun ii hi => ?_)
  ·
    refine ⟨0, [(1841282216941579801882419204465524523121861150899223944084351394554075260477629437121839426933321088397373759821752539942684706807060533592497296769027,     Src.nil 6),   (1841282216941579801882419204465524523121861150899223944084351394554075260477629437121839426933321088397373759821752539942684706807060533592497296769028,     Src.nil 6),   (1841282216941579801882419204465524523121861150899223944084351394554075260477629437121839426933321088397373759821752539942684706807060533592497296769029,     Src.nm       1636695303948070935006594848413799576108321023021532394741645684048066898202337277441635046162952078575443342063780035504608628272942696526664263794689)], _, Nat.zero_le _, ormi_1 .., (ob_cons rfl (ob_cons rfl (ob_cons rfl (ob_cons rfl (ob_cons rfl (ob_cons rfl (ob_cons rfl (ob_cons rfl (ob_cons rfl (ob_cons rfl (ob_cons rfl (ob_cons rfl (ob_cons rfl (ob_cons rfl (ob_cons (Nat.le_refl _) (ob_cons (.inl ⟨rfl, rfl⟩) (ob_cons rfl (ob_cons rfl (ob_cons rfl (ob_cons rfl (ob_cons rfl (ob_cons ?_ (ob_cons rfl (ob_cons rfl (ob_cons rfl (ob_cons rfl (ob_cons rfl (ob_cons rfl (ob_cons rfl (ob_cons rfl (ob_cons rfl (ob_cons rfl (ob_cons rfl (ob_cons rfl (ob_cons rfl (ob_cons rfl (ob_cons rfl (ob_cons rfl (ob_cons ?_ (ob_cons rfl (ob_cons rfl (ob_cons rfl (ob_cons rfl (ob_cons ?_ (ob_cons ?_ (ob_cons ?_ (ob_cons ?_ (ob_cons ?_ (ob_cons ?_ (ob_cons ?_ (ob_cons ?_ (ob_cons ?_ (ob_cons rfl (ob_cons ?_ (ob_cons rfl (ob_cons ?_ (ob_cons ?_ (ob_cons ?_ (ob_cons ?_ (ob_cons ?_ (ob_cons ?_ (ob_cons ?_ (ob_cons ?_ (ob_cons rfl (ob_cons ?_ (ob_cons ?_ ob_nil))))))))))))))))))))))))))))))))))))))))))))))))))))))))))))))))))⟩
    · exact rfl
    · exact rfl
    · exact rfl
    · exact rfl
    · exact rfl
    · exact rfl
    · exact rfl
    · exact rfl
    · exact rfl
    · exact rfl
    · exact fun _ => rfl
    · exact rfl
    · exact rfl
    · exact rfl
    · exact rfl
    · exact rfl
    · exact rfl
    · exact rfl
    · exact rfl
    · exact rfl
    · exact Nat.le_refl _
    · exact .inl ⟨rfl, rfl⟩
  have hi : ii ≤ 1282 := hi
  by_cases hx : ii = 1282
  · subst hx
    have hgt : decide (Int.ofNat 1282 < 1282) = false := by decide
    refine round_exit (s0 := ormU m f S R) (T := fun i => ormT m f S R i) (i := 1282) (ormx_1 ..) (by simp) (ob_cons rfl (ob_cons rfl (ob_cons rfl (ob_cons rfl (ob_cons rfl (ob_cons rfl (ob_cons rfl (ob_cons rfl (ob_cons rfl (ob_cons rfl (ob_cons rfl (ob_cons rfl (ob_cons rfl (ob_cons (Nat.le_refl _) (ob_cons (.inl ⟨rfl, rfl⟩) (ob_cons rfl (ob_cons rfl (ob_cons rfl (ob_cons rfl (ob_cons rfl (ob_cons rfl (ob_cons rfl (ob_cons rfl (ob_cons rfl (ob_cons rfl (ob_cons rfl (ob_cons rfl (ob_cons rfl (ob_cons (Nat.le_refl _) (ob_cons (.inl ⟨rfl, rfl⟩) (ob_cons rfl (ob_cons rfl (ob_cons rfl (ob_cons rfl (ob_cons rfl (ob_cons rfl (ob_cons rfl (ob_cons rfl (ob_cons rfl (ob_cons rfl (ob_cons rfl (ob_cons rfl (ob_cons rfl (ob_cons rfl (ob_cons (Nat.le_refl _) (ob_cons (.inl ⟨rfl, rfl⟩) (ob_cons rfl (ob_cons rfl (ob_cons rfl (ob_cons rfl (ob_cons rfl (ob_cons rfl (ob_cons rfl (ob_cons rfl (ob_cons (fun _ => rfl) (ob_cons rfl (ob_cons rfl (ob_cons rfl (ob_cons rfl (ob_cons rfl (ob_cons rfl (ob_cons rfl (ob_cons rfl (ob_cons rfl (ob_cons rfl (ob_cons rfl (ob_cons rfl (ob_cons (Nat.le_refl _) (ob_cons (.inl ⟨rfl, rfl⟩) (ob_cons ?_ ob_nil))))))))))))))))))))))))))))))))))))))))))))))))))))))))))))))))))))))
    · with_reducible assumption
  have hgt : decide (Int.ofNat ii < 1282) = true := decide_eq_true (by show (ii : Int) < 1282; omega)
  have hok := tkIt_ok hu ii
  have sm := sim_all hb hu ii
  have sm1 := sim_all hb hu (ii + 1)
  have hrn := rk_n R ii
  have hru := ru_of sm.b hok.1 (by omega)
  have hb1 : Both (teY (tkIt S ii).S (tkIt S ii).o) (rkYX (rkIt R ii).R (rkIt R ii).o) := sm1.b
  have hln : TLn (rkIt R ii).o.ln := by rw [← sm.ln]; exact hok.2.1.l
  have hhd : R64 (rkIt R ii).o.h := by rw [← sm.h]; exact hok.2.1.h
  have hnn : (tkIt S ii).n ≤ (tkIt S ii).n ∧ (tkIt S ii).n ≤ 1000000 := ⟨Nat.le_refl _, by have := hok.2.2; omega⟩
  have hnn2 : (rkIt R ii).n ≤ (rkIt R ii).n ∧ (rkIt R ii).n ≤ 1000000 := ⟨Nat.le_refl _, by rw [← sm.n]; exact hnn.2⟩
  have hXY : (teX (tkIt S ii).n (tkIt S ii).S (tkIt S ii).o).ln = (rkX (rkIt R ii).n (rkIt R ii).R (rkIt R ii).o).ln := sm1.ln
  have t1 : ((decide ((teX (tkIt S ii).n (tkIt S ii).S (tkIt S ii).o).ln = 0) == ((rkX (rkIt R ii).n (rkIt R ii).R (rkIt R ii).o).ln == 0)) == false) = false := cmp0 hXY
  have t2 : ((((teX (tkIt S ii).n (tkIt S ii).S (tkIt S ii).o).ln == 0) == ((rkX (rkIt R ii).n (rkIt R ii).R (rkIt R ii).o).ln == 0)) == false) = false := cmp1 hXY
  have hq : ((rkIt R ii).o.ln == 0) = false := eqF (by rw [← sm.ln]; exact he.no ii (by omega))
  by_cases hl : ii = 1281
  · have hov : (teX (tkIt S ii).n (tkIt S ii).S (tkIt S ii).o).ln = 0 := by subst hl; exact he.ov
    have t3 : (!(teX (tkIt S ii).n (tkIt S ii).S (tkIt S ii).o).ln == 0) = false := notE' hov
    have t4 : (!(rkX (rkIt R ii).n (rkIt R ii).R (rkIt R ii).o).ln == 0) = false := notE' (hXY ▸ hov)
    have hN : (teNX (tkIt S ii).n (tkIt S ii).o) = 256 := by subst hl; exact he.n
    have hNR : (teNX (tkIt S ii).n (tkIt S ii).o) = (teNX (rkIt R ii).n (rkIt R ii).o) := sm1.n
    have hsb : (!sameB ((teNX (tkIt S ii).n (tkIt S ii).o) - 0) (teNX (rkIt R ii).n (rkIt R ii).o) 0 0 (fun i j => yF (teEX (tkIt S ii).n (fun i => yOf (yF (tkIt S ii).E i)) (tkIt S ii).S (tkIt S ii).o) (0 + i) j) (yF (rkEX (rkIt R ii).n (fun i => yOf (yF (rkIt R ii).E i)) (rkIt R ii).R (rkIt R ii).o))) = false := by
      have := sameB_y (n := (teNX (tkIt S ii).n (tkIt S ii).o)) (n' := (teNX (rkIt R ii).n (rkIt R ii).o)) (E := (tkIt S (ii + 1)).E) (E' := (rkIt R (ii + 1)).E) hNR sm1.E
      have e : (fun i j => yF (teEX (tkIt S ii).n (fun i => yOf (yF (tkIt S ii).E i)) (tkIt S ii).S (tkIt S ii).o) (0 + i) j) = yF (tkIt S (ii + 1)).E := by funext i j; rw [Nat.zero_add]; rfl
      rw [e, Nat.sub_zero]; exact this
    refine round_norm (s0 := ormU m f S R) (T := fun i => ormT m f S R i) (i := ii) (ii + 1) (ormb_1 ..) (ob_cons rfl (ob_cons rfl (ob_cons rfl (ob_cons rfl (ob_cons ?_ (ob_cons rfl (ob_cons rfl (ob_cons rfl (ob_cons rfl (ob_cons rfl (ob_cons rfl (ob_cons rfl (ob_cons rfl (ob_cons rfl (ob_cons (Nat.le_refl _) (ob_cons (.inl ⟨rfl, rfl⟩) (ob_cons ?_ (ob_cons ?_ (ob_cons ?_ (ob_cons ?_ (ob_cons ?_ (ob_cons ?_ (ob_cons ?_ (ob_cons ?_ (ob_cons ?_ (ob_cons rfl (ob_cons ?_ (ob_cons rfl (ob_cons rfl (ob_cons ?_ (ob_cons ?_ (ob_cons ?_ (ob_cons rfl (ob_cons ?_ (ob_cons rfl (ob_cons rfl (ob_cons ?_ (ob_cons ?_ (ob_cons ?_ (ob_cons ?_ (ob_cons ?_ (ob_cons ?_ (ob_cons ?_ (ob_cons ?_ (ob_cons rfl (ob_cons ?_ (ob_cons ?_ (ob_cons ?_ (ob_cons ?_ (ob_cons ?_ (ob_cons ?_ (ob_cons ?_ (ob_cons ?_ (ob_cons ?_ (ob_cons ?_ (ob_cons ?_ (ob_cons rfl (ob_cons ?_ (ob_cons rfl (ob_cons ?_ (ob_cons ?_ (ob_cons ?_ (ob_cons ?_ (ob_cons ?_ (ob_cons ?_ (ob_cons ?_ (ob_cons ?_ (ob_cons rfl (ob_cons ?_ (ob_cons ?_ (ob_cons ?_ (ob_cons ?_ (ob_cons ?_ (ob_cons ?_ (ob_cons ?_ (ob_cons ?_ (ob_cons ?_ (ob_cons ?_ (ob_cons ?_ (ob_cons ?_ (ob_cons ?_ (ob_cons ?_ (ob_cons ?_ (ob_cons ?_ (ob_cons ?_ (ob_cons (Nat.le_refl _) (ob_cons ?_ (ob_cons ?_ (ob_cons ?_ (ob_cons ?_ (ob_cons ?_ (ob_cons ?_ (ob_cons ?_ (ob_cons ?_ (ob_cons ?_ (ob_cons ?_ (ob_cons ?_ (ob_cons ?_ (ob_cons ?_ (ob_cons ?_ (ob_cons ?_ (ob_cons rfl (ob_cons ?_ (ob_cons ?_ (ob_cons ?_ (ob_cons ?_ (ob_cons ?_ (ob_cons ?_ (ob_cons ?_ (ob_cons ?_ (ob_cons ?_ (ob_cons ?_ ob_nil)))))))))))))))))))))))))))))))))))))))))))))))))))))))))))))))))))))))))))))))))))))))))))))))))))))))))))))))) (by show ii + 1 ≤ 1282; omega) (by show 1282 - (ii + 1) < 1282 - ii; omega)
    · exact wrap_nat64 _ (by simp; omega) (by simp; omega)
    · exact rfl
    · exact rfl
    · exact rfl
    · exact rfl
    · exact rfl
    · exact rfl
    · exact rfl
    · exact rfl
    · exact rfl
    · exact rfl
    · exact Nat.le_refl _
    · exact .inl ⟨rfl, rfl⟩
    · exact rfl
    · exact rfl
    · exact rfl
    · exact rfl
    · exact rfl
    · exact rfl
    · exact rfl
    · exact rfl
    · exact rfl
    · exact rfl
    · exact Nat.le_refl _
    · exact .inl ⟨rfl, rfl⟩
    · exact rfl
    · exact rfl
    · exact rfl
    · exact rfl
    · exact rfl
    · exact rfl
    · exact rfl
    · exact rfl
    · exact fun _ => rfl
    · exact rfl
    · exact rfl
    · exact rfl
    · exact rfl
    · exact rfl
    · exact rfl
    · exact rfl
    · exact rfl
    · exact rfl
    · exact Nat.le_refl _
    · exact .inl ⟨rfl, rfl⟩
    · with_reducible assumption
    · with_reducible assumption
    · (rw [hN]; decide)
    · (simp; done)
    · (rw [hN]; decide)
    · (rw [hN]; rfl)
    · (rw [hN]; rfl)
    · (rw [hN]; rfl)
    · (rw [hN]; rfl)
    · (rw [hN]; rfl)
    · (rw [hN]; rfl)
    · (rw [hN]; rfl)
    · with_reducible assumption
    · (rw [hN]; decide)
    · (rw [hN]; decide)
    · with_reducible assumption
    · (rw [hN]; decide)
    · (simp; done)
    · (rw [hN]; decide)
    · with_reducible assumption
    · (rw [hN]; rfl)
    · (rw [hN]; rfl)
    · (rw [hN]; rfl)
    · (rw [hN]; rfl)
    · (rw [hN]; rfl)
    · (rw [hN]; rfl)
    · (rw [hN]; rfl)
    · with_reducible assumption
    · with_reducible assumption
    · with_reducible assumption
    · exact hok.1
    · exact hok.2.1.l
    · exact hok.2.1.h
    · with_reducible assumption
    · with_reducible assumption
    · with_reducible assumption
    · with_reducible assumption
    · with_reducible assumption
    · with_reducible assumption
    · with_reducible assumption
  · have hno : ¬ (teX (tkIt S ii).n (tkIt S ii).S (tkIt S ii).o).ln = 0 := he.no (ii + 1) (by omega)
    have t3 : (!(teX (tkIt S ii).n (tkIt S ii).S (tkIt S ii).o).ln == 0) = true := notE hno
    have t4 : (!(rkX (rkIt R ii).n (rkIt R ii).R (rkIt R ii).o).ln == 0) = true := notE (hXY ▸ hno)
    have hN : True := trivial
    have hsb : True := trivial
    refine round_norm (s0 := ormU m f S R) (T := fun i => ormT m f S R i) (i := ii) (ii + 1) (orma_1 ..) (ob_cons rfl (ob_cons rfl (ob_cons rfl (ob_cons rfl (ob_cons ?_ (ob_cons rfl (ob_cons rfl (ob_cons rfl (ob_cons rfl (ob_cons rfl (ob_cons rfl (ob_cons rfl (ob_cons rfl (ob_cons rfl (ob_cons (Nat.le_refl _) (ob_cons (.inl ⟨rfl, rfl⟩) (ob_cons ?_ (ob_cons ?_ (ob_cons ?_ (ob_cons ?_ (ob_cons ?_ (ob_cons ?_ (ob_cons ?_ (ob_cons ?_ (ob_cons ?_ (ob_cons rfl (ob_cons ?_ (ob_cons rfl (ob_cons rfl (ob_cons ?_ (ob_cons ?_ (ob_cons ?_ (ob_cons rfl (ob_cons ?_ (ob_cons rfl (ob_cons rfl (ob_cons ?_ (ob_cons ?_ (ob_cons ?_ (ob_cons ?_ (ob_cons ?_ (ob_cons ?_ (ob_cons ?_ (ob_cons ?_ (ob_cons rfl (ob_cons ?_ (ob_cons ?_ (ob_cons ?_ (ob_cons ?_ (ob_cons ?_ (ob_cons ?_ (ob_cons ?_ (ob_cons ?_ (ob_cons ?_ (ob_cons ?_ (ob_cons ?_ (ob_cons rfl (ob_cons ?_ (ob_cons rfl (ob_cons ?_ (ob_cons ?_ (ob_cons ?_ (ob_cons ?_ (ob_cons ?_ (ob_cons ?_ (ob_cons ?_ (ob_cons ?_ (ob_cons rfl (ob_cons ?_ (ob_cons ?_ (ob_cons ?_ (ob_cons ?_ (ob_cons ?_ (ob_cons ?_ (ob_cons ?_ (ob_cons rfl (ob_cons ?_ (ob_cons ?_ (ob_cons ?_ (ob_cons ?_ (ob_cons ?_ (ob_cons ?_ (ob_cons ?_ (ob_cons ?_ (ob_cons ?_ (ob_cons ?_ ob_nil)))))))))))))))))))))))))))))))))))))))))))))))))))))))))))))))))))))))))))))))))))))) (by show ii + 1 ≤ 1282; omega) (by show 1282 - (ii + 1) < 1282 - ii; omega)
    · exact wrap_nat64 _ (by simp; omega) (by simp; omega)
    · exact rfl
    · exact rfl
    · exact rfl
    · exact rfl
    · exact rfl
    · exact rfl
    · exact rfl
    · exact rfl
    · exact rfl
    · exact rfl
    · exact Nat.le_refl _
    · exact .inl ⟨rfl, rfl⟩
    · exact rfl
    · exact rfl
    · exact rfl
    · exact rfl
    · exact rfl
    · exact rfl
    · exact rfl
    · exact rfl
    · exact rfl
    · exact rfl
    · exact Nat.le_refl _
    · exact .inl ⟨rfl, rfl⟩
    · exact rfl
    · exact rfl
    · exact rfl
    · exact rfl
    · exact rfl
    · exact rfl
    · exact rfl
    · exact rfl
    · exact fun _ => rfl
    · exact rfl
    · exact rfl
    · exact rfl
    · exact rfl
    · exact rfl
    · exact rfl
    · exact rfl
    · exact rfl
    · exact rfl
    · exact Nat.le_refl _
    · exact .inl ⟨rfl, rfl⟩
    · with_reducible assumption
    · with_reducible assumption
    · with_reducible assumption
    · with_reducible assumption
    · with_reducible assumption
    · exact hok.1
    · exact hok.2.1.l
    · exact hok.2.1.h
    · with_reducible assumption
    · with_reducible assumption
    · with_reducible assumption
    · with_reducible assumption
    · with_reducible assumption
    · with_reducible assumption
    · with_reducible assumption

end Go.Proofs.YtmndhjodbnojdaaDoor
